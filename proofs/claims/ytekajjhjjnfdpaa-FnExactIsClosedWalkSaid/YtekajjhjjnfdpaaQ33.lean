/- Written by a program of this session: functions of the translation as plain Lean functions, each with a proof that the call does what the plain function says; the conditions stand in each theorem. -/
import Derived.Test.YtekajjhjjnfdpaaQ0
import Derived.Test.YtekajjhjjnfdpaaQ1
import Derived.Test.YtekajjhjjnfdpaaQ4
import Derived.Test.YtekajjhjjnfdpaaQ5
import Derived.Test.YtekajjhjjnfdpaaQ32
namespace Go.Proofs.Ytekajjhjjnfdpaa.Q
open Go.RowKit Go.Proofs.YtekajjhjjnfdpaaW.PrintWords Go.Proofs.YtekajjhjjnfdpaaW.PrintLast Go.Proofs.YtekajjhjjnfdpaaW.PrintMore
attribute [local go_sem] max2_int min2_int max_two min_two max_three min_three max_four min_four   -- for this text's walks alone
set_option linter.unusedVariables false
set_option linter.unusedSimpArgs false

/-! ### laws_FnExactIsClosedWalk: function 9 -/
def laws_FnExactIsClosedWalk.j0 : Nat → List Int → List Int → Bool → Int → Int → List Int → Int → Int → List Int → Option (Bool)
 | 0, _, _, _, _, _, _, _, _, _ => none
 | k + 1, x2, x11, x51, x858000, x858001, x858002, x878000, x878001, x878002 => if x51 = true then (some false) else ((laws_toBoard.f k x858000 x858001 x858002).bind fun bt885 => ((laws_eqBoard.f k x878000 x878001 x878002 bt885.1 bt885.2.1 bt885.2.2).bind fun t890 => (if t890 = true then ((laws_toIntS.f k x2).bind fun t891 => ((laws_eqIntS.f k x11 t891).bind fun t894 => (if t894 = true then (some true) else (some false)))) else (some false))))
def laws_FnExactIsClosedWalk.f (k : Nat) (a0_0 : Int) (a0_1 : Int) (l0_2 : List Int) (a1_0 : Int) (a1_1 : Int) (l2 : List Int) : Option (Bool) := if (l2.length : Int) > 1048576 then (some true) else ((laws_szBoard.f a0_0 a0_1 l0_2 1048576).bind fun t859 => (if t859 < 0 then (some true) else ((laws_toBoard.f k a0_0 a0_1 l0_2).bind fun bt860 => ((laws_toLeaper.f a1_0 a1_1).bind fun bt865 => ((laws_toIntS.f k l2).bind fun t867 => ((spec_IsClosedWalk.f k bt860.1 bt860.2.1 bt860.2.2 bt865.1 bt865.2 t867).bind fun bt870 => ((laws_toBoard.f k a0_0 a0_1 l0_2).bind fun bt872 => ((laws_toIntS.f k l2).bind fun t878 => ((laws_toLeaper.f a1_0 a1_1).bind fun bt881 => ((impl_IsClosedWalk.f k bt872.1 bt872.2.1 bt872.2.2 bt881.1 bt881.2 t878).bind fun bt883 => (if (bt883.1 != bt870.1) = true then (laws_FnExactIsClosedWalk.j0 k l2 t878 true a0_0 a0_1 l0_2 bt872.1 bt872.2.1 bt872.2.2) else (laws_FnExactIsClosedWalk.j0 k l2 t878 (bt883.2 != bt870.2) a0_0 a0_1 l0_2 bt872.1 bt872.2.1 bt872.2.2))))))))))))
def laws_FnExactIsClosedWalk.T7 : Bool × List (List Nat × List Nat) := (true, [([], []), ([0], [0]), ([], []), ([2, 1], [2]), ([], []), ([4, 3], [4]), ([1, 3, 5, 5], [1, 3, 5]), ([6], [6]), ([7], [7]), ([7], [7]), ([8, 6, 0, 1, 2, 3, 4, 5, 6, 7, 8], [8]), ([9, 10, 0, 1, 2, 3, 4, 5, 6, 7, 8, 9, 10], [9])])
def laws_FnExactIsClosedWalk.B7 : List Nat := [0, 1, 0, 7, 0, 31, 63, 127, 255, 255, 511, 2047]
theorem laws_FnExactIsClosedWalk.tab7 : rtab .any (opsOf Try.f9 7) = laws_FnExactIsClosedWalk.T7 := by kernel_rfl
theorem laws_FnExactIsClosedWalk.bits7 : waitsOk laws_FnExactIsClosedWalk.T7.2 laws_FnExactIsClosedWalk.B7 = true := by kernel_rfl
def laws_FnExactIsClosedWalk.T10 : Bool × List (List Nat × List Nat) := (true, [([], []), ([], []), ([1], [1]), ([], []), ([0, 2, 3, 2], [0, 2, 3]), ([4], [4]), ([5], [5]), ([5], [5]), ([6, 4, 0, 1, 2, 3, 4, 5, 6], [6]), ([7, 8, 0, 1, 2, 3, 4, 5, 6, 7, 8], [7])])
def laws_FnExactIsClosedWalk.B10 : List Nat := [0, 0, 2, 0, 15, 31, 63, 63, 127, 511]
theorem laws_FnExactIsClosedWalk.tab10 : rtab .any (opsOf Try.f9 10) = laws_FnExactIsClosedWalk.T10 := by kernel_rfl
theorem laws_FnExactIsClosedWalk.bits10 : waitsOk laws_FnExactIsClosedWalk.T10.2 laws_FnExactIsClosedWalk.B10 = true := by kernel_rfl
set_option maxHeartbeats 8000000 in
set_option maxRecDepth 100000 in
theorem laws_FnExactIsClosedWalk.calls (k : Nat) (a0_0 : Int) (a0_1 : Int) (A0_2 : Option Addr) (c0_2 : Nat) (l0_2 : List Int) (a1_0 : Int) (a1_1 : Int) (A2 : Option Addr) (c2 : Nat) (l2 : List Int) (r : Bool) (w : World) (hr0_2 : Kd.C (Kd.int .i64) w A0_2 l0_2.length l0_2) (hc0_2 : l0_2.length ≤ c0_2) (hr2 : Kd.C (Kd.int .i64) w A2 l2.length l2) (hc2 : l2.length ≤ c2) (h : laws_FnExactIsClosedWalk.f k a0_0 a0_1 l0_2 a1_0 a1_1 l2 = some r) :
  Calls Try.prog 9 #[.agg #[.int .i64 a0_0, .int .i64 a0_1, .slice A0_2 l0_2.length c0_2], .agg #[.int .i64 a1_0, .int .i64 a1_1], .slice A2 l2.length c2] w fun e w' => e = .returned (.bool r) ∧ Below w.heap.size w w' := by
 have hu24 := Try.underlying24
 have hu26 := Try.underlying26
 have hu30 := Try.underlying30
 have HR0_2 := Aside0.mk hr0_2
 have HC0_2 := Aside0.mk hc0_2
 clear hr0_2 hc0_2
 have HR2 := Aside0.mk hr2
 have HC2 := Aside0.mk hc2
 clear hr2 hc2
 have HB := Aside0.mk (Below.refl w.heap.size w)
 have H : (if (l2.length : Int) > 1048576 then (some true) else ((laws_szBoard.f a0_0 a0_1 l0_2 1048576).bind fun t859 => (if t859 < 0 then (some true) else ((laws_toBoard.f k a0_0 a0_1 l0_2).bind fun bt860 => ((laws_toLeaper.f a1_0 a1_1).bind fun bt865 => ((laws_toIntS.f k l2).bind fun t867 => ((spec_IsClosedWalk.f k bt860.1 bt860.2.1 bt860.2.2 bt865.1 bt865.2 t867).bind fun bt870 => ((laws_toBoard.f k a0_0 a0_1 l0_2).bind fun bt872 => ((laws_toIntS.f k l2).bind fun t878 => ((laws_toLeaper.f a1_0 a1_1).bind fun bt881 => ((impl_IsClosedWalk.f k bt872.1 bt872.2.1 bt872.2.2 bt881.1 bt881.2 t878).bind fun bt883 => (if (bt883.1 != bt870.1) = true then (laws_FnExactIsClosedWalk.j0 k l2 t878 true a0_0 a0_1 l0_2 bt872.1 bt872.2.1 bt872.2.2) else (laws_FnExactIsClosedWalk.j0 k l2 t878 (bt883.2 != bt870.2) a0_0 a0_1 l0_2 bt872.1 bt872.2.1 bt872.2.2))))))))))))) = some r := h
 clear h
 by_cases c4 : (l2.length : Int) > 1048576
 ·rw [if_pos c4] at H
  have c4b0 : decide (1048576 < (l2.length : Int)) = true := decide_eq_true c4
  have c4b1 : decide (1048576 < l2.length) = true := decide_eq_true (by omega)
  clear c4
  obtain rfl := Option.some.inj H
  go_enter Try.func9, Try.ntmps9
  go_wp2_with (first | ((with_reducible refine gate_dst (N := 3) rfl ?_); refine box_event ?hg (N := 3) ?hd (cs := #[.int .i64 a0_0, .int .i64 a0_1, .slice A0_2 l0_2.length c0_2]) (t := 24) ?hr ?_; (case hd => rfl); (case hg => rfl); (case hr => first | (go_simp; done) | (go_simp; rfl)); intro gb857 hg w5 hbox hb; have n0_ := Aside0.mk (below_step (by repeat (first | (with_reducible first | exact HB.out | apply below_alloc | apply pw_below_drewN | apply below_drew1) | exact HB.out)) hb); have n1_ := Aside0.mk (hbox); have n2_ := Aside0.mk ((by rw [hg]; exact (below_size (by repeat (first | (with_reducible first | exact HB.out | apply below_alloc | apply pw_below_drewN | apply below_drew1) | exact HB.out))) : w.heap.size ≤ gb857)); have n3_ := Aside0.mk ((by rw [hg]; exact (below_size (by repeat (first | (with_reducible first | exact HB.out | apply below_alloc | apply pw_below_drewN | apply below_drew1) | exact HB.out))) : w.heap.size ≤ gb857)); clear HB; have HB := n0_; have BK857 := n1_; have GW857 := n2_; have GE857 := n3_; clear n0_ n1_ n2_ n3_; clear hb hbox hg) | ((with_reducible refine gate_dst (N := 4) rfl ?_); refine box_event ?hg (N := 4) ?hd (cs := #[.int .i64 a1_0, .int .i64 a1_1]) (t := 26) ?hr ?_; (case hd => rfl); (case hg => rfl); (case hr => first | (go_simp; done) | (go_simp; rfl)); intro gb858 hg w6 hbox hb; have n0_ := Aside0.mk (blk_below (g := gb857) (o := .cells #[.int .i64 a0_0, .int .i64 a0_1, .slice A0_2 l0_2.length c0_2] 24 (0, 0)) (by (with_reducible repeat (first | refine blk_drewN ?_ _ | refine blk_drew ?_ | refine blk_alloc ?_ _)); exact BK857.out) hb); have n1_ := Aside0.mk (below_step (by repeat (first | (with_reducible first | exact HB.out | apply below_alloc | apply pw_below_drewN | apply below_drew1 | refine below_set ?_ GE857.out) | exact HB.out)) hb); have n2_ := Aside0.mk (hbox); have n3_ := Aside0.mk ((by rw [hg]; exact (below_size (by repeat (first | (with_reducible first | exact HB.out | apply below_alloc | apply pw_below_drewN | apply below_drew1 | refine below_set ?_ GE857.out) | exact HB.out))) : w.heap.size ≤ gb858)); have n4_ := Aside0.mk ((by rw [hg]; exact (below_size (by repeat (first | (with_reducible first | exact HB.out | apply below_alloc | apply pw_below_drewN | apply below_drew1 | refine below_set ?_ GE857.out) | exact HB.out))) : w.heap.size ≤ gb858)); have n5_ := Aside0.mk ((by rw [hg]; exact Nat.ne_of_lt (blk_lt (g := gb857) (o := .cells #[.int .i64 a0_0, .int .i64 a0_1, .slice A0_2 l0_2.length c0_2] 24 (0, 0)) (by (with_reducible repeat (first | refine blk_drewN ?_ _ | refine blk_drew ?_ | refine blk_alloc ?_ _)); exact BK857.out)) : gb857 ≠ gb858)); have n6_ := Aside0.mk ((by rw [hg]; exact Nat.ne_of_gt (blk_lt (g := gb857) (o := .cells #[.int .i64 a0_0, .int .i64 a0_1, .slice A0_2 l0_2.length c0_2] 24 (0, 0)) (by (with_reducible repeat (first | refine blk_drewN ?_ _ | refine blk_drew ?_ | refine blk_alloc ?_ _)); exact BK857.out)) : gb858 ≠ gb857)); clear BK857; clear HB; have BK857 := n0_; have HB := n1_; have BK858 := n2_; have GW858 := n3_; have GE858 := n4_; have NB857_858 := n5_; have NB858_857 := n6_; clear n0_ n1_ n2_ n3_ n4_ n5_ n6_; clear hb hbox hg))
  go_ret
  exact ⟨by first | rfl | (simp [errW_none, errW_some] <;> rfl) | (simp [*, errW_none, errW_some] <;> rfl), by repeat (first | (with_reducible first | exact HB.out | apply below_alloc | apply pw_below_drewN | apply below_drew1 | refine below_set ?_ GE857.out | refine below_set ?_ GE858.out) | exact HB.out)⟩
 ·rw [if_neg c4] at H
  have c4b0 : decide (1048576 < (l2.length : Int)) = false := decide_eq_false c4
  have c4b1 : decide (1048576 < l2.length) = false := decide_eq_false (by omega)
  clear c4
  replace H := Option.bind_eq_some_iff.mp H
  obtain ⟨t859, A70, H⟩ := H
  replace H : (if t859 < 0 then (some true) else ((laws_toBoard.f k a0_0 a0_1 l0_2).bind fun bt860 => ((laws_toLeaper.f a1_0 a1_1).bind fun bt865 => ((laws_toIntS.f k l2).bind fun t867 => ((spec_IsClosedWalk.f k bt860.1 bt860.2.1 bt860.2.2 bt865.1 bt865.2 t867).bind fun bt870 => ((laws_toBoard.f k a0_0 a0_1 l0_2).bind fun bt872 => ((laws_toIntS.f k l2).bind fun t878 => ((laws_toLeaper.f a1_0 a1_1).bind fun bt881 => ((impl_IsClosedWalk.f k bt872.1 bt872.2.1 bt872.2.2 bt881.1 bt881.2 t878).bind fun bt883 => (if (bt883.1 != bt870.1) = true then (laws_FnExactIsClosedWalk.j0 k l2 t878 true a0_0 a0_1 l0_2 bt872.1 bt872.2.1 bt872.2.2) else (laws_FnExactIsClosedWalk.j0 k l2 t878 (bt883.2 != bt870.2) a0_0 a0_1 l0_2 bt872.1 bt872.2.1 bt872.2.2))))))))))) = some r := H
  have A7 := Aside0.mk A70
  clear A70
  by_cases c8 : t859 < 0
  ·rw [if_pos c8] at H
   have c8b0 : decide (t859 < 0) = true := decide_eq_true c8
   clear c8
   obtain rfl := Option.some.inj H
   go_enter Try.func9, Try.ntmps9
   go_wp2_with (first | ((with_reducible refine gate_dst (N := 3) rfl ?_); refine box_event ?hg (N := 3) ?hd (cs := #[.int .i64 a0_0, .int .i64 a0_1, .slice A0_2 l0_2.length c0_2]) (t := 24) ?hr ?_; (case hd => rfl); (case hg => rfl); (case hr => first | (go_simp; done) | (go_simp; rfl)); intro gb857 hg w9 hbox hb; have n0_ := Aside0.mk (below_step (by repeat (first | (with_reducible first | exact HB.out | apply below_alloc | apply pw_below_drewN | apply below_drew1) | exact HB.out)) hb); have n1_ := Aside0.mk (hbox); have n2_ := Aside0.mk ((by rw [hg]; exact (below_size (by repeat (first | (with_reducible first | exact HB.out | apply below_alloc | apply pw_below_drewN | apply below_drew1) | exact HB.out))) : w.heap.size ≤ gb857)); have n3_ := Aside0.mk ((by rw [hg]; exact (below_size (by repeat (first | (with_reducible first | exact HB.out | apply below_alloc | apply pw_below_drewN | apply below_drew1) | exact HB.out))) : w.heap.size ≤ gb857)); clear HB; have HB := n0_; have BK857 := n1_; have GW857 := n2_; have GE857 := n3_; clear n0_ n1_ n2_ n3_; clear hb hbox hg) | ((with_reducible refine gate_dst (N := 4) rfl ?_); refine box_event ?hg (N := 4) ?hd (cs := #[.int .i64 a1_0, .int .i64 a1_1]) (t := 26) ?hr ?_; (case hd => rfl); (case hg => rfl); (case hr => first | (go_simp; done) | (go_simp; rfl)); intro gb858 hg w10 hbox hb; have n0_ := Aside0.mk (blk_below (g := gb857) (o := .cells #[.int .i64 a0_0, .int .i64 a0_1, .slice A0_2 l0_2.length c0_2] 24 (0, 0)) (by (with_reducible repeat (first | refine blk_drewN ?_ _ | refine blk_drew ?_ | refine blk_alloc ?_ _)); exact BK857.out) hb); have n1_ := Aside0.mk (below_step (by repeat (first | (with_reducible first | exact HB.out | apply below_alloc | apply pw_below_drewN | apply below_drew1 | refine below_set ?_ GE857.out) | exact HB.out)) hb); have n2_ := Aside0.mk (hbox); have n3_ := Aside0.mk ((by rw [hg]; exact (below_size (by repeat (first | (with_reducible first | exact HB.out | apply below_alloc | apply pw_below_drewN | apply below_drew1 | refine below_set ?_ GE857.out) | exact HB.out))) : w.heap.size ≤ gb858)); have n4_ := Aside0.mk ((by rw [hg]; exact (below_size (by repeat (first | (with_reducible first | exact HB.out | apply below_alloc | apply pw_below_drewN | apply below_drew1 | refine below_set ?_ GE857.out) | exact HB.out))) : w.heap.size ≤ gb858)); have n5_ := Aside0.mk ((by rw [hg]; exact Nat.ne_of_lt (blk_lt (g := gb857) (o := .cells #[.int .i64 a0_0, .int .i64 a0_1, .slice A0_2 l0_2.length c0_2] 24 (0, 0)) (by (with_reducible repeat (first | refine blk_drewN ?_ _ | refine blk_drew ?_ | refine blk_alloc ?_ _)); exact BK857.out)) : gb857 ≠ gb858)); have n6_ := Aside0.mk ((by rw [hg]; exact Nat.ne_of_gt (blk_lt (g := gb857) (o := .cells #[.int .i64 a0_0, .int .i64 a0_1, .slice A0_2 l0_2.length c0_2] 24 (0, 0)) (by (with_reducible repeat (first | refine blk_drewN ?_ _ | refine blk_drew ?_ | refine blk_alloc ?_ _)); exact BK857.out)) : gb858 ≠ gb857)); clear BK857; clear HB; have BK857 := n0_; have HB := n1_; have BK858 := n2_; have GW858 := n3_; have GE858 := n4_; have NB857_858 := n5_; have NB858_857 := n6_; clear n0_ n1_ n2_ n3_ n4_ n5_ n6_; clear hb hbox hg; have hnb11 := NB857_858.out; have hnc11 := NB858_857.out; have hcz12_0 : w10.cell? ⟨gb857, 0, none⟩ = some (.int .i64 a0_0) := (blk_cell BK857.out 0).trans rfl; have hcz12_1 : w10.cell? ⟨gb857, 1, none⟩ = some (.int .i64 a0_1) := (blk_cell BK857.out 1).trans rfl; have hcz12_2 : w10.cell? ⟨gb857, 2, none⟩ = some (.slice A0_2 l0_2.length c0_2) := (blk_cell BK857.out 2).trans rfl; have hfz12_0 := blk_frozen BK857.out 0; have hfz12_1 := blk_frozen BK857.out 1; have hfz12_2 := blk_frozen BK857.out 2) | ((with_reducible refine gate_callee (f := 15) rfl ?_); refine goesL_ (some 19) rfl rfl Try.func15 (by kernel_rfl) rfl #[.agg #[.int .i64 a0_0, .int .i64 a0_1, .slice A0_2 l0_2.length c0_2], .int .i64 1048576] rfl (by (try simp only [List.map_toArray, List.map_cons, List.map_nil]); first | done | rfl | (simp only [List.length_drop, List.length_take]; rfl)) ?_; (with_reducible refine (laws_szBoard.calls a0_0 a0_1 _ _ l0_2 1048576 t859 _ ?side1 ?side2 A7.out).mono ?_); (case side1 => repeat (first | exact (Kd.C_below HR0_2.out HB.out) | (with_reducible refine Kd.C_alloc ?_ _) | (with_reducible refine Kd.C_drewN ?_ _) | (with_reducible refine Kd.C_drew ?_))); (case side2 => exact HC0_2.out); rintro e w13 ⟨rfl, hb⟩; refine ⟨_, rfl, ?_⟩; have n0_ := Aside0.mk (blk_below (g := gb857) (o := .cells #[.int .i64 a0_0, .int .i64 a0_1, .slice A0_2 l0_2.length c0_2] 24 (0, 0)) (by (with_reducible repeat (first | refine blk_drewN ?_ _ | refine blk_drew ?_ | refine blk_alloc ?_ _)); exact BK857.out) hb); have n1_ := Aside0.mk (blk_below (g := gb858) (o := .cells #[.int .i64 a1_0, .int .i64 a1_1] 26 (0, 0)) (by (with_reducible repeat (first | refine blk_drewN ?_ _ | refine blk_drew ?_ | refine blk_alloc ?_ _)); exact BK858.out) hb); have n2_ := Aside0.mk (below_step (by repeat (first | (with_reducible first | exact HB.out | apply below_alloc | apply pw_below_drewN | apply below_drew1 | refine below_set ?_ GE857.out | refine below_set ?_ GE858.out) | exact HB.out)) hb); clear BK857; clear BK858; clear HB; have BK857 := n0_; have BK858 := n1_; have HB := n2_; clear n0_ n1_ n2_; (try clear hb); (try clear hb2); (try clear hk); (try clear hi); (try clear hna_); (try clear hnb_)))
   go_ret
   exact ⟨by first | rfl | (simp [errW_none, errW_some] <;> rfl) | (simp [*, errW_none, errW_some] <;> rfl), by repeat (first | (with_reducible first | exact HB.out | apply below_alloc | apply pw_below_drewN | apply below_drew1 | refine below_set ?_ GE857.out | refine below_set ?_ GE858.out) | exact HB.out)⟩
  ·rw [if_neg c8] at H
   have c8b0 : decide (t859 < 0) = false := decide_eq_false c8
   clear c8
   replace H := Option.bind_eq_some_iff.mp H
   obtain ⟨⟨t860, t861, t862⟩, A140, H⟩ := H
   replace H : ((laws_toLeaper.f a1_0 a1_1).bind fun bt865 => ((laws_toIntS.f k l2).bind fun t867 => ((spec_IsClosedWalk.f k t860 t861 t862 bt865.1 bt865.2 t867).bind fun bt870 => ((laws_toBoard.f k a0_0 a0_1 l0_2).bind fun bt872 => ((laws_toIntS.f k l2).bind fun t878 => ((laws_toLeaper.f a1_0 a1_1).bind fun bt881 => ((impl_IsClosedWalk.f k bt872.1 bt872.2.1 bt872.2.2 bt881.1 bt881.2 t878).bind fun bt883 => (if (bt883.1 != bt870.1) = true then (laws_FnExactIsClosedWalk.j0 k l2 t878 true a0_0 a0_1 l0_2 bt872.1 bt872.2.1 bt872.2.2) else (laws_FnExactIsClosedWalk.j0 k l2 t878 (bt883.2 != bt870.2) a0_0 a0_1 l0_2 bt872.1 bt872.2.1 bt872.2.2))))))))) = some r := H
   have A14 := Aside0.mk A140
   clear A140
   replace H := Option.bind_eq_some_iff.mp H
   obtain ⟨⟨t865, t866⟩, A150, H⟩ := H
   replace H : ((laws_toIntS.f k l2).bind fun t867 => ((spec_IsClosedWalk.f k t860 t861 t862 t865 t866 t867).bind fun bt870 => ((laws_toBoard.f k a0_0 a0_1 l0_2).bind fun bt872 => ((laws_toIntS.f k l2).bind fun t878 => ((laws_toLeaper.f a1_0 a1_1).bind fun bt881 => ((impl_IsClosedWalk.f k bt872.1 bt872.2.1 bt872.2.2 bt881.1 bt881.2 t878).bind fun bt883 => (if (bt883.1 != bt870.1) = true then (laws_FnExactIsClosedWalk.j0 k l2 t878 true a0_0 a0_1 l0_2 bt872.1 bt872.2.1 bt872.2.2) else (laws_FnExactIsClosedWalk.j0 k l2 t878 (bt883.2 != bt870.2) a0_0 a0_1 l0_2 bt872.1 bt872.2.1 bt872.2.2)))))))) = some r := H
   have A15 := Aside0.mk A150
   clear A150
   replace H := Option.bind_eq_some_iff.mp H
   obtain ⟨t867, A160, H⟩ := H
   replace H : ((spec_IsClosedWalk.f k t860 t861 t862 t865 t866 t867).bind fun bt870 => ((laws_toBoard.f k a0_0 a0_1 l0_2).bind fun bt872 => ((laws_toIntS.f k l2).bind fun t878 => ((laws_toLeaper.f a1_0 a1_1).bind fun bt881 => ((impl_IsClosedWalk.f k bt872.1 bt872.2.1 bt872.2.2 bt881.1 bt881.2 t878).bind fun bt883 => (if (bt883.1 != bt870.1) = true then (laws_FnExactIsClosedWalk.j0 k l2 t878 true a0_0 a0_1 l0_2 bt872.1 bt872.2.1 bt872.2.2) else (laws_FnExactIsClosedWalk.j0 k l2 t878 (bt883.2 != bt870.2) a0_0 a0_1 l0_2 bt872.1 bt872.2.1 bt872.2.2))))))) = some r := H
   have A16 := Aside0.mk A160
   clear A160
   replace H := Option.bind_eq_some_iff.mp H
   obtain ⟨⟨t870, t871⟩, A170, H⟩ := H
   replace H : ((laws_toBoard.f k a0_0 a0_1 l0_2).bind fun bt872 => ((laws_toIntS.f k l2).bind fun t878 => ((laws_toLeaper.f a1_0 a1_1).bind fun bt881 => ((impl_IsClosedWalk.f k bt872.1 bt872.2.1 bt872.2.2 bt881.1 bt881.2 t878).bind fun bt883 => (if (bt883.1 != t870) = true then (laws_FnExactIsClosedWalk.j0 k l2 t878 true a0_0 a0_1 l0_2 bt872.1 bt872.2.1 bt872.2.2) else (laws_FnExactIsClosedWalk.j0 k l2 t878 (bt883.2 != t871) a0_0 a0_1 l0_2 bt872.1 bt872.2.1 bt872.2.2)))))) = some r := H
   have A17 := Aside0.mk A170
   clear A170
   replace H := Option.bind_eq_some_iff.mp H
   obtain ⟨⟨t872, t873, t874⟩, A180, H⟩ := H
   replace H : ((laws_toIntS.f k l2).bind fun t878 => ((laws_toLeaper.f a1_0 a1_1).bind fun bt881 => ((impl_IsClosedWalk.f k t872 t873 t874 bt881.1 bt881.2 t878).bind fun bt883 => (if (bt883.1 != t870) = true then (laws_FnExactIsClosedWalk.j0 k l2 t878 true a0_0 a0_1 l0_2 t872 t873 t874) else (laws_FnExactIsClosedWalk.j0 k l2 t878 (bt883.2 != t871) a0_0 a0_1 l0_2 t872 t873 t874))))) = some r := H
   have A18 := Aside0.mk A180
   clear A180
   replace H := Option.bind_eq_some_iff.mp H
   obtain ⟨t878, A190, H⟩ := H
   replace H : ((laws_toLeaper.f a1_0 a1_1).bind fun bt881 => ((impl_IsClosedWalk.f k t872 t873 t874 bt881.1 bt881.2 t878).bind fun bt883 => (if (bt883.1 != t870) = true then (laws_FnExactIsClosedWalk.j0 k l2 t878 true a0_0 a0_1 l0_2 t872 t873 t874) else (laws_FnExactIsClosedWalk.j0 k l2 t878 (bt883.2 != t871) a0_0 a0_1 l0_2 t872 t873 t874)))) = some r := H
   have A19 := Aside0.mk A190
   clear A190
   replace H := Option.bind_eq_some_iff.mp H
   obtain ⟨⟨t881, t882⟩, A200, H⟩ := H
   replace H : ((impl_IsClosedWalk.f k t872 t873 t874 t881 t882 t878).bind fun bt883 => (if (bt883.1 != t870) = true then (laws_FnExactIsClosedWalk.j0 k l2 t878 true a0_0 a0_1 l0_2 t872 t873 t874) else (laws_FnExactIsClosedWalk.j0 k l2 t878 (bt883.2 != t871) a0_0 a0_1 l0_2 t872 t873 t874))) = some r := H
   have A20 := Aside0.mk A200
   clear A200
   replace H := Option.bind_eq_some_iff.mp H
   obtain ⟨⟨t883, t884⟩, A210, H⟩ := H
   replace H : (if (t883 != t870) = true then (laws_FnExactIsClosedWalk.j0 k l2 t878 true a0_0 a0_1 l0_2 t872 t873 t874) else (laws_FnExactIsClosedWalk.j0 k l2 t878 (t884 != t871) a0_0 a0_1 l0_2 t872 t873 t874)) = some r := H
   have A21 := Aside0.mk A210
   clear A210
   have HC22 := Aside0.mk H
   clear H
   go_enter Try.func9, Try.ntmps9
   try go_wp2_with (first | ((with_reducible refine gate_dst (N := 3) rfl ?_); refine box_event ?hg (N := 3) ?hd (cs := #[.int .i64 a0_0, .int .i64 a0_1, .slice A0_2 l0_2.length c0_2]) (t := 24) ?hr ?_; (case hd => rfl); (case hg => rfl); (case hr => first | (go_simp; done) | (go_simp; rfl)); intro gb857 hg w23 hbox hb; have n0_ := Aside0.mk (below_step (by repeat (first | (with_reducible first | exact HB.out | apply below_alloc | apply pw_below_drewN | apply below_drew1) | exact HB.out)) hb); have n1_ := Aside0.mk (hbox); have n2_ := Aside0.mk ((by rw [hg]; exact (below_size (by repeat (first | (with_reducible first | exact HB.out | apply below_alloc | apply pw_below_drewN | apply below_drew1) | exact HB.out))) : w.heap.size ≤ gb857)); have n3_ := Aside0.mk ((by rw [hg]; exact (below_size (by repeat (first | (with_reducible first | exact HB.out | apply below_alloc | apply pw_below_drewN | apply below_drew1) | exact HB.out))) : w.heap.size ≤ gb857)); clear HB; have HB := n0_; have BK857 := n1_; have GW857 := n2_; have GE857 := n3_; clear n0_ n1_ n2_ n3_; clear hb hbox hg) | ((with_reducible refine gate_dst (N := 4) rfl ?_); refine box_event ?hg (N := 4) ?hd (cs := #[.int .i64 a1_0, .int .i64 a1_1]) (t := 26) ?hr ?_; (case hd => rfl); (case hg => rfl); (case hr => first | (go_simp; done) | (go_simp; rfl)); intro gb858 hg w24 hbox hb; have n0_ := Aside0.mk (blk_below (g := gb857) (o := .cells #[.int .i64 a0_0, .int .i64 a0_1, .slice A0_2 l0_2.length c0_2] 24 (0, 0)) (by (with_reducible repeat (first | refine blk_drewN ?_ _ | refine blk_drew ?_ | refine blk_alloc ?_ _)); exact BK857.out) hb); have n1_ := Aside0.mk (below_step (by repeat (first | (with_reducible first | exact HB.out | apply below_alloc | apply pw_below_drewN | apply below_drew1 | refine below_set ?_ GE857.out) | exact HB.out)) hb); have n2_ := Aside0.mk (hbox); have n3_ := Aside0.mk ((by rw [hg]; exact (below_size (by repeat (first | (with_reducible first | exact HB.out | apply below_alloc | apply pw_below_drewN | apply below_drew1 | refine below_set ?_ GE857.out) | exact HB.out))) : w.heap.size ≤ gb858)); have n4_ := Aside0.mk ((by rw [hg]; exact (below_size (by repeat (first | (with_reducible first | exact HB.out | apply below_alloc | apply pw_below_drewN | apply below_drew1 | refine below_set ?_ GE857.out) | exact HB.out))) : w.heap.size ≤ gb858)); have n5_ := Aside0.mk ((by rw [hg]; exact Nat.ne_of_lt (blk_lt (g := gb857) (o := .cells #[.int .i64 a0_0, .int .i64 a0_1, .slice A0_2 l0_2.length c0_2] 24 (0, 0)) (by (with_reducible repeat (first | refine blk_drewN ?_ _ | refine blk_drew ?_ | refine blk_alloc ?_ _)); exact BK857.out)) : gb857 ≠ gb858)); have n6_ := Aside0.mk ((by rw [hg]; exact Nat.ne_of_gt (blk_lt (g := gb857) (o := .cells #[.int .i64 a0_0, .int .i64 a0_1, .slice A0_2 l0_2.length c0_2] 24 (0, 0)) (by (with_reducible repeat (first | refine blk_drewN ?_ _ | refine blk_drew ?_ | refine blk_alloc ?_ _)); exact BK857.out)) : gb858 ≠ gb857)); clear BK857; clear HB; have BK857 := n0_; have HB := n1_; have BK858 := n2_; have GW858 := n3_; have GE858 := n4_; have NB857_858 := n5_; have NB858_857 := n6_; clear n0_ n1_ n2_ n3_ n4_ n5_ n6_; clear hb hbox hg; have hnb25 := NB857_858.out; have hnc25 := NB858_857.out; have hcz26_0 : w24.cell? ⟨gb857, 0, none⟩ = some (.int .i64 a0_0) := (blk_cell BK857.out 0).trans rfl; have hcz26_1 : w24.cell? ⟨gb857, 1, none⟩ = some (.int .i64 a0_1) := (blk_cell BK857.out 1).trans rfl; have hcz26_2 : w24.cell? ⟨gb857, 2, none⟩ = some (.slice A0_2 l0_2.length c0_2) := (blk_cell BK857.out 2).trans rfl; have hfz26_0 := blk_frozen BK857.out 0; have hfz26_1 := blk_frozen BK857.out 1; have hfz26_2 := blk_frozen BK857.out 2) | ((with_reducible refine gate_callee (f := 15) rfl ?_); refine goesL_ (some 19) rfl rfl Try.func15 (by kernel_rfl) rfl #[.agg #[.int .i64 a0_0, .int .i64 a0_1, .slice A0_2 l0_2.length c0_2], .int .i64 1048576] rfl (by (try simp only [List.map_toArray, List.map_cons, List.map_nil]); first | done | rfl | (simp only [List.length_drop, List.length_take]; rfl)) ?_; (with_reducible refine (laws_szBoard.calls a0_0 a0_1 _ _ l0_2 1048576 t859 _ ?side1 ?side2 A7.out).mono ?_); (case side1 => repeat (first | exact (Kd.C_below HR0_2.out HB.out) | (with_reducible refine Kd.C_alloc ?_ _) | (with_reducible refine Kd.C_drewN ?_ _) | (with_reducible refine Kd.C_drew ?_))); (case side2 => exact HC0_2.out); rintro e w27 ⟨rfl, hb⟩; refine ⟨_, rfl, ?_⟩; have n0_ := Aside0.mk (blk_below (g := gb857) (o := .cells #[.int .i64 a0_0, .int .i64 a0_1, .slice A0_2 l0_2.length c0_2] 24 (0, 0)) (by (with_reducible repeat (first | refine blk_drewN ?_ _ | refine blk_drew ?_ | refine blk_alloc ?_ _)); exact BK857.out) hb); have n1_ := Aside0.mk (blk_below (g := gb858) (o := .cells #[.int .i64 a1_0, .int .i64 a1_1] 26 (0, 0)) (by (with_reducible repeat (first | refine blk_drewN ?_ _ | refine blk_drew ?_ | refine blk_alloc ?_ _)); exact BK858.out) hb); have n2_ := Aside0.mk (below_step (by repeat (first | (with_reducible first | exact HB.out | apply below_alloc | apply pw_below_drewN | apply below_drew1 | refine below_set ?_ GE857.out | refine below_set ?_ GE858.out) | exact HB.out)) hb); clear BK857; clear BK858; clear HB; have BK857 := n0_; have BK858 := n1_; have HB := n2_; clear n0_ n1_ n2_; (try clear hb); (try clear hb2); (try clear hk); (try clear hi); (try clear hna_); (try clear hnb_)))
   have n0_ := Aside0.mk (blk_drew BK857.out)
   have n1_ := Aside0.mk (blk_drew BK858.out)
   have n2_ := Aside0.mk (below_drew1 HB.out)
   clear BK857
   clear BK858
   clear HB
   have BK857 := n0_
   have BK858 := n1_
   have HB := n2_
   clear n0_ n1_ n2_
   refine start_ (n := 12) (S := fun w' => w'.cell? ⟨gb857, 0, none⟩ = some (.int .i64 a0_0) ∧ w'.cell? ⟨gb857, 1, none⟩ = some (.int .i64 a0_1) ∧ w'.cell? ⟨gb857, 2, none⟩ = some (.slice A0_2 l0_2.length c0_2) ∧ w'.cell? ⟨gb858, 0, none⟩ = some (.int .i64 a1_0) ∧ w'.cell? ⟨gb858, 1, none⟩ = some (.int .i64 a1_1)) (ds := []) #[false, false, false, false, false, false, false, false, false, false, false, false] (by kernel_rfl) rfl rfl ⟨(blk_cell BK857.out 0).trans rfl, (blk_cell BK857.out 1).trans rfl, (blk_cell BK857.out 2).trans rfl, (blk_cell BK858.out 0).trans rfl, (blk_cell BK858.out 1).trans rfl⟩ (fun hHeld => ?_); refine with_tabW laws_FnExactIsClosedWalk.tab7 laws_FnExactIsClosedWalk.bits7 (fun HT_ HW_ => ?_)
   generalize w27.drew = w28 at BK857 BK858 HB hHeld ⊢
   refine pure_ (i := 4) (N := some 27) (v := ?_) (a' := ?_) #[false, false, false, false, true, false, false, false, false, false, false, false] rfl rfl (any_of HT_.out (by kernel_rfl)) (fun _ _ _ h => h) (Or.inl ⟨by rfl, ?_⟩) ?_ ?_
   rotate_left
   ·intro w'
    go_simp
    with_reducible rfl
   rotate_left
   ·simp only [Act.put, List.setIfInBounds_toArray, List.set_cons_zero, List.set_cons_succ, i64_w, i32_w]
    rfl
   refine take_ (i := 0) (N := some 23) (v := ?_) (a' := ?_) #[true, false, false, false, true, false, false, false, false, false, false, false] rfl rfl (take_ofW HT_.out HW_.out (by kernel_rfl)) (fun _ _ _ h => h) (Or.inl ⟨by rfl, ?_⟩) hHeld ?_ ?_
   rotate_left
   ·rintro w' ⟨s0, s1, s2, s3, s4⟩
    go_simp
    with_reducible rfl
   rotate_left
   ·simp only [Act.put, List.setIfInBounds_toArray, List.set_cons_zero, List.set_cons_succ, i64_w, i32_w]
    rfl
   refine take_ (i := 2) (N := some 25) (v := ?_) (a' := ?_) #[true, false, true, false, true, false, false, false, false, false, false, false] rfl rfl (take_ofW HT_.out HW_.out (by kernel_rfl)) (fun _ _ _ h => h) (Or.inl ⟨by rfl, ?_⟩) hHeld ?_ ?_
   rotate_left
   ·rintro w' ⟨s0, s1, s2, s3, s4⟩
    go_simp
    with_reducible rfl
   rotate_left
   ·simp only [Act.put, List.setIfInBounds_toArray, List.set_cons_zero, List.set_cons_succ, i64_w, i32_w]
    rfl
   refine one_ (i := 1) (N := some 24) #[true, true, true, false, true, false, false, false, false, false, false, false] rfl rfl (one_of HT_.out (by kernel_rfl)) (by decide) (fun K hK => ?_)
   refine goes_ Try.func17 (by kernel_rfl) rfl #[.agg #[.int .i64 a0_0, .int .i64 a0_1, .slice A0_2 l0_2.length c0_2]] (by rfl) rfl rfl (by (try simp only [List.map_toArray, List.map_cons, List.map_nil]); first | done | rfl | (simp only [List.length_drop, List.length_take]; rfl)) ?_
   with_reducible refine (laws_toBoard.calls k a0_0 a0_1 _ _ l0_2 t860 t861 t862 _ ?side1 ?side2 A14.out).mono ?_
   (case side1 => repeat (first | exact (Kd.C_below HR0_2.out HB.out) | (with_reducible refine Kd.C_alloc ?_ _) | (with_reducible refine Kd.C_drewN ?_ _) | (with_reducible refine Kd.C_drew ?_)))
   (case side2 => exact HC0_2.out)
   rintro e w29 ⟨v863, rfl, ho0, hb⟩
   refine ⟨_, rfl, ?_⟩
   have n0_ := Aside0.mk (Kd.R_lower ho0 (below_size (by repeat (first | (with_reducible first | exact HB.out | apply below_alloc | apply pw_below_drewN | apply below_drew1 | refine below_set ?_ GE857.out | refine below_set ?_ GE858.out) | exact HB.out))))
   have n1_ := Aside0.mk (blk_below (g := gb857) (o := .cells #[.int .i64 a0_0, .int .i64 a0_1, .slice A0_2 l0_2.length c0_2] 24 (0, 0)) (by (with_reducible repeat (first | refine blk_drewN ?_ _ | refine blk_drew ?_ | refine blk_alloc ?_ _)); exact BK857.out) hb)
   have n2_ := Aside0.mk (blk_below (g := gb858) (o := .cells #[.int .i64 a1_0, .int .i64 a1_1] 26 (0, 0)) (by (with_reducible repeat (first | refine blk_drewN ?_ _ | refine blk_drew ?_ | refine blk_alloc ?_ _)); exact BK858.out) hb)
   have n3_ := Aside0.mk (below_step (by repeat (first | (with_reducible first | exact HB.out | apply below_alloc | apply pw_below_drewN | apply below_drew1 | refine below_set ?_ GE857.out | refine below_set ?_ GE858.out) | exact HB.out)) hb)
   clear BK857
   clear BK858
   clear HB
   have HO864 := n0_
   have BK857 := n1_
   have BK858 := n2_
   have HB := n3_
   clear n0_ n1_ n2_ n3_
   (try clear hb)
   (try clear hb2)
   (try clear hk)
   (try clear hi)
   (try clear ho0)
   (try clear hna_)
   (try clear hnb_)
   refine hK.out _ _ ⟨(blk_cell BK857.out 0).trans rfl, (blk_cell BK857.out 1).trans rfl, (blk_cell BK857.out 2).trans rfl, (blk_cell BK858.out 0).trans rfl, (blk_cell BK858.out 1).trans rfl⟩ (fun hHeld => ?_)
   clear hK K
   refine norm_ (a' := ?_) ?_ ?_
   rotate_left
   ·show Act.put _ (some 24) _ = _
    simp only [Act.put, List.setIfInBounds_toArray, List.set_cons_zero, List.set_cons_succ, i64_w, i32_w]
    rfl
   refine one_ (i := 3) (N := some 26) #[true, true, true, true, true, false, false, false, false, false, false, false] rfl rfl (one_of HT_.out (by kernel_rfl)) (by decide) (fun K hK => ?_)
   refine goes_ Try.func18 (by kernel_rfl) rfl #[.agg #[.int .i64 a1_0, .int .i64 a1_1]] (by rfl) rfl rfl (by (try simp only [List.map_toArray, List.map_cons, List.map_nil]); first | done | rfl | (simp only [List.length_drop, List.length_take]; rfl)) ?_
   with_reducible refine (laws_toLeaper.calls a1_0 a1_1 t865 t866 _ A15.out).mono ?_
   rintro e w30 ⟨rfl, hb⟩
   refine ⟨_, rfl, ?_⟩
   have n0_ := Aside0.mk (Kd.R_below (by (with_reducible repeat (first | apply Kd.R_alloc | apply Kd.R_drewN | apply Kd.R_drew)); exact HO864.out) hb)
   have n1_ := Aside0.mk (blk_below (g := gb857) (o := .cells #[.int .i64 a0_0, .int .i64 a0_1, .slice A0_2 l0_2.length c0_2] 24 (0, 0)) (by (with_reducible repeat (first | refine blk_drewN ?_ _ | refine blk_drew ?_ | refine blk_alloc ?_ _)); exact BK857.out) hb)
   have n2_ := Aside0.mk (blk_below (g := gb858) (o := .cells #[.int .i64 a1_0, .int .i64 a1_1] 26 (0, 0)) (by (with_reducible repeat (first | refine blk_drewN ?_ _ | refine blk_drew ?_ | refine blk_alloc ?_ _)); exact BK858.out) hb)
   have n3_ := Aside0.mk (below_step (by repeat (first | (with_reducible first | exact HB.out | apply below_alloc | apply pw_below_drewN | apply below_drew1 | refine below_set ?_ GE857.out | refine below_set ?_ GE858.out) | exact HB.out)) hb)
   clear HO864
   clear BK857
   clear BK858
   clear HB
   have HO864 := n0_
   have BK857 := n1_
   have BK858 := n2_
   have HB := n3_
   clear n0_ n1_ n2_ n3_
   (try clear hb)
   (try clear hb2)
   (try clear hk)
   (try clear hi)
   (try clear hna_)
   (try clear hnb_)
   refine hK.out _ _ ⟨(blk_cell BK857.out 0).trans rfl, (blk_cell BK857.out 1).trans rfl, (blk_cell BK857.out 2).trans rfl, (blk_cell BK858.out 0).trans rfl, (blk_cell BK858.out 1).trans rfl⟩ (fun hHeld => ?_)
   clear hK K
   refine norm_ (a' := ?_) ?_ ?_
   rotate_left
   ·show Act.put _ (some 26) _ = _
    simp only [Act.put, List.setIfInBounds_toArray, List.set_cons_zero, List.set_cons_succ, i64_w, i32_w]
    rfl
   refine one_ (i := 5) (N := some 28) #[true, true, true, true, true, true, false, false, false, false, false, false] rfl rfl (one_of HT_.out (by kernel_rfl)) (by decide) (fun K hK => ?_)
   refine goes_ Try.func26 (by kernel_rfl) rfl #[.slice A2 l2.length c2] (by rfl) rfl rfl (by (try simp only [List.map_toArray, List.map_cons, List.map_nil]); first | done | rfl | (simp only [List.length_drop, List.length_take]; rfl)) ?_
   with_reducible refine (laws_toIntS.calls k _ _ l2 t867 _ ?side1 ?side2 A16.out).mono ?_
   (case side1 => repeat (first | exact (Kd.C_below HR2.out HB.out) | (with_reducible refine Kd.C_alloc ?_ _) | (with_reducible refine Kd.C_drewN ?_ _) | (with_reducible refine Kd.C_drew ?_)))
   (case side2 => exact HC2.out)
   rintro e w31 ⟨v868, rfl, ho0, hb⟩
   refine ⟨_, rfl, ?_⟩
   have n0_ := Aside0.mk (Kd.R_elder' (by (with_reducible repeat (first | apply Kd.R_alloc | apply Kd.R_drewN | apply Kd.R_drew)); exact HO864.out) (Kd.R_base ho0) hb)
   have n1_ := Aside0.mk (Kd.R_lower (Kd.R_new' ho0 (Kd.R_lt (by (with_reducible repeat (first | apply Kd.R_alloc | apply Kd.R_drewN | apply Kd.R_drew)); exact HO864.out))) (below_size (by repeat (first | (with_reducible first | exact HB.out | apply below_alloc | apply pw_below_drewN | apply below_drew1 | refine below_set ?_ GE857.out | refine below_set ?_ GE858.out) | exact HB.out))))
   have n2_ := Aside0.mk (blk_below (g := gb857) (o := .cells #[.int .i64 a0_0, .int .i64 a0_1, .slice A0_2 l0_2.length c0_2] 24 (0, 0)) (by (with_reducible repeat (first | refine blk_drewN ?_ _ | refine blk_drew ?_ | refine blk_alloc ?_ _)); exact BK857.out) hb)
   have n3_ := Aside0.mk (blk_below (g := gb858) (o := .cells #[.int .i64 a1_0, .int .i64 a1_1] 26 (0, 0)) (by (with_reducible repeat (first | refine blk_drewN ?_ _ | refine blk_drew ?_ | refine blk_alloc ?_ _)); exact BK858.out) hb)
   have n4_ := Aside0.mk (below_step (by repeat (first | (with_reducible first | exact HB.out | apply below_alloc | apply pw_below_drewN | apply below_drew1 | refine below_set ?_ GE857.out | refine below_set ?_ GE858.out) | exact HB.out)) hb)
   clear HO864
   clear BK857
   clear BK858
   clear HB
   have HO864 := n0_
   have HO869 := n1_
   have BK857 := n2_
   have BK858 := n3_
   have HB := n4_
   clear n0_ n1_ n2_ n3_ n4_
   (try clear hb)
   (try clear hb2)
   (try clear hk)
   (try clear hi)
   (try clear ho0)
   (try clear hna_)
   (try clear hnb_)
   obtain ⟨Ao32, co32, eo32⟩ := Kd.R_slice HO864.out
   (first | subst eo32 | (injection eo32 with f1_ f2_ f3_; have f4_ := f1_.symm; have f5_ := f3_.symm; clear f1_ f2_ f3_; subst f4_; subst f5_))
   obtain ⟨Ao33, co33, eo33⟩ := Kd.R_slice HO869.out
   (first | subst eo33 | (injection eo33 with f1_ f2_ f3_; have f4_ := f1_.symm; have f5_ := f3_.symm; clear f1_ f2_ f3_; subst f4_; subst f5_))
   refine hK.out _ _ ⟨(blk_cell BK857.out 0).trans rfl, (blk_cell BK857.out 1).trans rfl, (blk_cell BK857.out 2).trans rfl, (blk_cell BK858.out 0).trans rfl, (blk_cell BK858.out 1).trans rfl⟩ (fun hHeld => ?_)
   clear hK K
   refine norm_ (a' := ?_) ?_ ?_
   rotate_left
   ·show Act.put _ (some 28) _ = _
    simp only [Act.put, List.setIfInBounds_toArray, List.set_cons_zero, List.set_cons_succ, i64_w, i32_w]
    rfl
   refine one_ (i := 6) (N := some 29) #[true, true, true, true, true, true, true, false, false, false, false, false] rfl rfl (one_of HT_.out (by kernel_rfl)) (by decide) (fun K hK => ?_)
   refine goes_ Try.func36 (by kernel_rfl) rfl #[.agg #[.int .i64 t860, .int .i64 t861, .slice Ao32 t862.length co32], .agg #[.int .i64 t865, .int .i64 t866], .slice Ao33 t867.length co33] (by rfl) rfl rfl (by (try simp only [List.map_toArray, List.map_cons, List.map_nil]); first | done | rfl | (simp only [List.length_drop, List.length_take]; rfl)) ?_
   with_reducible refine (spec_IsClosedWalk.calls k t860 t861 _ _ t862 t865 t866 _ _ t867 t870 t871 _ ?side1 ?side2 ?side3 ?side4 A17.out).mono ?_
   (case side1 => repeat (first | exact (Kd.R_reads' HO864.out).2.2 | (with_reducible refine Kd.C_alloc ?_ _) | (with_reducible refine Kd.C_drewN ?_ _) | (with_reducible refine Kd.C_drew ?_)))
   (case side2 => exact (Kd.R_reads' HO864.out).2.1)
   (case side3 => repeat (first | exact (Kd.R_reads' HO869.out).2.2 | (with_reducible refine Kd.C_alloc ?_ _) | (with_reducible refine Kd.C_drewN ?_ _) | (with_reducible refine Kd.C_drew ?_)))
   (case side4 => exact (Kd.R_reads' HO869.out).2.1)
   rintro e w34 ⟨rfl, hb⟩
   refine ⟨_, rfl, ?_⟩
   have n0_ := Aside0.mk (Kd.R_below (by (with_reducible repeat (first | apply Kd.R_alloc | apply Kd.R_drewN | apply Kd.R_drew)); exact HO864.out) hb)
   have n1_ := Aside0.mk (Kd.R_below (by (with_reducible repeat (first | apply Kd.R_alloc | apply Kd.R_drewN | apply Kd.R_drew)); exact HO869.out) hb)
   have n2_ := Aside0.mk (blk_below (g := gb857) (o := .cells #[.int .i64 a0_0, .int .i64 a0_1, .slice A0_2 l0_2.length c0_2] 24 (0, 0)) (by (with_reducible repeat (first | refine blk_drewN ?_ _ | refine blk_drew ?_ | refine blk_alloc ?_ _)); exact BK857.out) hb)
   have n3_ := Aside0.mk (blk_below (g := gb858) (o := .cells #[.int .i64 a1_0, .int .i64 a1_1] 26 (0, 0)) (by (with_reducible repeat (first | refine blk_drewN ?_ _ | refine blk_drew ?_ | refine blk_alloc ?_ _)); exact BK858.out) hb)
   have n4_ := Aside0.mk (below_step (by repeat (first | (with_reducible first | exact HB.out | apply below_alloc | apply pw_below_drewN | apply below_drew1 | refine below_set ?_ GE857.out | refine below_set ?_ GE858.out) | exact HB.out)) hb)
   clear HO864
   clear HO869
   clear BK857
   clear BK858
   clear HB
   have HO864 := n0_
   have HO869 := n1_
   have BK857 := n2_
   have BK858 := n3_
   have HB := n4_
   clear n0_ n1_ n2_ n3_ n4_
   (try clear hb)
   (try clear hb2)
   (try clear hk)
   (try clear hi)
   (try clear hna_)
   (try clear hnb_)
   refine hK.out _ _ ⟨(blk_cell BK857.out 0).trans rfl, (blk_cell BK857.out 1).trans rfl, (blk_cell BK857.out 2).trans rfl, (blk_cell BK858.out 0).trans rfl, (blk_cell BK858.out 1).trans rfl⟩ (fun hHeld => ?_)
   clear hK K
   refine norm_ (a' := ?_) ?_ ?_
   rotate_left
   ·show Act.put _ (some 29) _ = _
    simp only [Act.put, List.setIfInBounds_toArray, List.set_cons_zero, List.set_cons_succ, i64_w, i32_w]
    rfl
   refine pure_ (i := 7) (N := some 22) (v := ?_) (a' := ?_) #[true, true, true, true, true, true, true, true, false, false, false, false] rfl rfl (any_of HT_.out (by kernel_rfl)) (fun _ _ _ h => h) (Or.inl ⟨by rfl, ?_⟩) ?_ ?_
   rotate_left
   ·intro w'
    go_simp
    with_reducible rfl
   rotate_left
   ·simp only [Act.put, List.setIfInBounds_toArray, List.set_cons_zero, List.set_cons_succ, i64_w, i32_w]
    rfl
   refine pure_ (i := 8) (N := some 30) (v := ?_) (a' := ?_) #[true, true, true, true, true, true, true, true, true, false, false, false] rfl rfl (any_of HT_.out (by kernel_rfl)) (fun _ _ _ h => h) (Or.inl ⟨by rfl, ?_⟩) ?_ ?_
   rotate_left
   ·intro w'
    go_simp
    with_reducible rfl
   rotate_left
   ·simp only [Act.put, List.setIfInBounds_toArray, List.set_cons_zero, List.set_cons_succ, i64_w, i32_w]
    rfl
   refine pure_ (i := 9) (N := some 31) (v := ?_) (a' := ?_) #[true, true, true, true, true, true, true, true, true, true, false, false] rfl rfl (any_of HT_.out (by kernel_rfl)) (fun _ _ _ h => h) (Or.inl ⟨by rfl, ?_⟩) ?_ ?_
   rotate_left
   ·intro w'
    go_simp
    with_reducible rfl
   rotate_left
   ·simp only [Act.put, List.setIfInBounds_toArray, List.set_cons_zero, List.set_cons_succ, i64_w, i32_w]
    rfl
   refine pure_ (i := 10) (N := some 8) (v := ?_) (a' := ?_) #[true, true, true, true, true, true, true, true, true, true, true, false] rfl rfl (any_of HT_.out (by kernel_rfl)) (fun _ _ _ h => h) (Or.inl ⟨by rfl, ?_⟩) ?_ ?_
   rotate_left
   ·intro w'
    go_simp
    with_reducible rfl
   rotate_left
   ·simp only [Act.put, List.setIfInBounds_toArray, List.set_cons_zero, List.set_cons_succ, i64_w, i32_w]
    rfl
   refine pure_ (i := 11) (N := some 9) (v := ?_) (a' := ?_) #[true, true, true, true, true, true, true, true, true, true, true, true] rfl rfl (any_of HT_.out (by kernel_rfl)) (fun _ _ _ h => h) (Or.inl ⟨by rfl, ?_⟩) ?_ ?_
   rotate_left
   ·intro w'
    go_simp
    with_reducible rfl
   rotate_left
   ·simp only [Act.put, List.setIfInBounds_toArray, List.set_cons_zero, List.set_cons_succ, i64_w, i32_w]
    rfl
   refine done_ (done_of HT_.out (by kernel_rfl)) ?_
   have hcz35_0 : w34.cell? ⟨gb857, 0, none⟩ = some (.int .i64 a0_0) := (blk_cell BK857.out 0).trans rfl
   have hcz35_1 : w34.cell? ⟨gb857, 1, none⟩ = some (.int .i64 a0_1) := (blk_cell BK857.out 1).trans rfl
   have hcz35_2 : w34.cell? ⟨gb857, 2, none⟩ = some (.slice A0_2 l0_2.length c0_2) := (blk_cell BK857.out 2).trans rfl
   have hfz35_0 := blk_frozen BK857.out 0
   have hfz35_1 := blk_frozen BK857.out 1
   have hfz35_2 := blk_frozen BK857.out 2
   try go_wp2_with (first | ((with_reducible refine gate_callee (f := 17) rfl ?_); refine goesL_ (some 33) rfl rfl Try.func17 (by kernel_rfl) rfl #[.agg #[.int .i64 a0_0, .int .i64 a0_1, .slice A0_2 l0_2.length c0_2]] rfl (by (try simp only [List.map_toArray, List.map_cons, List.map_nil]); first | done | rfl | (simp only [List.length_drop, List.length_take]; rfl)) ?_; (with_reducible refine (laws_toBoard.calls k a0_0 a0_1 _ _ l0_2 t872 t873 t874 _ ?side1 ?side2 A18.out).mono ?_); (case side1 => repeat (first | exact (Kd.C_below HR0_2.out HB.out) | (with_reducible refine Kd.C_alloc ?_ _) | (with_reducible refine Kd.C_drewN ?_ _) | (with_reducible refine Kd.C_drew ?_))); (case side2 => exact HC0_2.out); rintro e w36 ⟨v875, rfl, ho0, hb⟩; refine ⟨_, rfl, ?_⟩; have n0_ := Aside0.mk (Kd.R_elder' (by (with_reducible repeat (first | apply Kd.R_alloc | apply Kd.R_drewN | apply Kd.R_drew)); exact HO864.out) (Kd.R_base ho0) hb); have n1_ := Aside0.mk (Kd.R_elder' (by (with_reducible repeat (first | apply Kd.R_alloc | apply Kd.R_drewN | apply Kd.R_drew)); exact HO869.out) (Kd.R_base ho0) hb); have n2_ := Aside0.mk (Kd.R_lower (Kd.R_new' (Kd.R_new' ho0 (Kd.R_lt (by (with_reducible repeat (first | apply Kd.R_alloc | apply Kd.R_drewN | apply Kd.R_drew)); exact HO864.out))) (Kd.R_lt (by (with_reducible repeat (first | apply Kd.R_alloc | apply Kd.R_drewN | apply Kd.R_drew)); exact HO869.out))) (below_size (by repeat (first | (with_reducible first | exact HB.out | apply below_alloc | apply pw_below_drewN | apply below_drew1 | refine below_set ?_ GE857.out | refine below_set ?_ GE858.out) | exact HB.out)))); have n3_ := Aside0.mk (blk_below (g := gb857) (o := .cells #[.int .i64 a0_0, .int .i64 a0_1, .slice A0_2 l0_2.length c0_2] 24 (0, 0)) (by (with_reducible repeat (first | refine blk_drewN ?_ _ | refine blk_drew ?_ | refine blk_alloc ?_ _)); exact BK857.out) hb); have n4_ := Aside0.mk (blk_below (g := gb858) (o := .cells #[.int .i64 a1_0, .int .i64 a1_1] 26 (0, 0)) (by (with_reducible repeat (first | refine blk_drewN ?_ _ | refine blk_drew ?_ | refine blk_alloc ?_ _)); exact BK858.out) hb); have n5_ := Aside0.mk (below_step (by repeat (first | (with_reducible first | exact HB.out | apply below_alloc | apply pw_below_drewN | apply below_drew1 | refine below_set ?_ GE857.out | refine below_set ?_ GE858.out) | exact HB.out)) hb); clear HO864; clear HO869; clear BK857; clear BK858; clear HB; have HO864 := n0_; have HO869 := n1_; have HO876 := n2_; have BK857 := n3_; have BK858 := n4_; have HB := n5_; clear n0_ n1_ n2_ n3_ n4_ n5_; (try clear hb); (try clear hb2); (try clear hk); (try clear hi); (try clear ho0); (try clear hna_); (try clear hnb_)) | ((with_reducible refine gate_dst (N := 10) rfl ?_); refine box_event ?hg (N := 10) ?hd (cs := #[.int .i64 0, .int .i64 0, .slice none 0 0]) (t := 30) ?hr ?_; (case hd => rfl); (case hg => rfl); (case hr => first | (go_simp; done) | (go_simp; rfl)); intro gb877 hg w37 hbox hb; have n0_ := Aside0.mk (Kd.R_below (by (with_reducible repeat (first | apply Kd.R_alloc | apply Kd.R_drewN | apply Kd.R_drew)); exact HO864.out) hb); have n1_ := Aside0.mk (Kd.R_below (by (with_reducible repeat (first | apply Kd.R_alloc | apply Kd.R_drewN | apply Kd.R_drew)); exact HO869.out) hb); have n2_ := Aside0.mk (Kd.R_below (by (with_reducible repeat (first | apply Kd.R_alloc | apply Kd.R_drewN | apply Kd.R_drew)); exact HO876.out) hb); have n3_ := Aside0.mk (blk_below (g := gb857) (o := .cells #[.int .i64 a0_0, .int .i64 a0_1, .slice A0_2 l0_2.length c0_2] 24 (0, 0)) (by (with_reducible repeat (first | refine blk_drewN ?_ _ | refine blk_drew ?_ | refine blk_alloc ?_ _)); exact BK857.out) hb); have n4_ := Aside0.mk (blk_below (g := gb858) (o := .cells #[.int .i64 a1_0, .int .i64 a1_1] 26 (0, 0)) (by (with_reducible repeat (first | refine blk_drewN ?_ _ | refine blk_drew ?_ | refine blk_alloc ?_ _)); exact BK858.out) hb); have n5_ := Aside0.mk (below_step (by repeat (first | (with_reducible first | exact HB.out | apply below_alloc | apply pw_below_drewN | apply below_drew1 | refine below_set ?_ GE857.out | refine below_set ?_ GE858.out) | exact HB.out)) hb); have n6_ := Aside0.mk (hbox); have n7_ := Aside0.mk ((by rw [hg]; exact (below_size (by repeat (first | (with_reducible first | exact HB.out | apply below_alloc | apply pw_below_drewN | apply below_drew1 | refine below_set ?_ GE857.out | refine below_set ?_ GE858.out) | exact HB.out))) : w.heap.size ≤ gb877)); have n8_ := Aside0.mk ((by rw [hg]; exact (below_size (by repeat (first | (with_reducible first | exact HB.out | apply below_alloc | apply pw_below_drewN | apply below_drew1 | refine below_set ?_ GE857.out | refine below_set ?_ GE858.out) | exact HB.out))) : w.heap.size ≤ gb877)); have n9_ := Aside0.mk ((by rw [hg]; exact Nat.ne_of_lt (blk_lt (g := gb857) (o := .cells #[.int .i64 a0_0, .int .i64 a0_1, .slice A0_2 l0_2.length c0_2] 24 (0, 0)) (by (with_reducible repeat (first | refine blk_drewN ?_ _ | refine blk_drew ?_ | refine blk_alloc ?_ _)); exact BK857.out)) : gb857 ≠ gb877)); have n10_ := Aside0.mk ((by rw [hg]; exact Nat.ne_of_gt (blk_lt (g := gb857) (o := .cells #[.int .i64 a0_0, .int .i64 a0_1, .slice A0_2 l0_2.length c0_2] 24 (0, 0)) (by (with_reducible repeat (first | refine blk_drewN ?_ _ | refine blk_drew ?_ | refine blk_alloc ?_ _)); exact BK857.out)) : gb877 ≠ gb857)); have n11_ := Aside0.mk ((by rw [hg]; exact Nat.ne_of_lt (blk_lt (g := gb858) (o := .cells #[.int .i64 a1_0, .int .i64 a1_1] 26 (0, 0)) (by (with_reducible repeat (first | refine blk_drewN ?_ _ | refine blk_drew ?_ | refine blk_alloc ?_ _)); exact BK858.out)) : gb858 ≠ gb877)); have n12_ := Aside0.mk ((by rw [hg]; exact Nat.ne_of_gt (blk_lt (g := gb858) (o := .cells #[.int .i64 a1_0, .int .i64 a1_1] 26 (0, 0)) (by (with_reducible repeat (first | refine blk_drewN ?_ _ | refine blk_drew ?_ | refine blk_alloc ?_ _)); exact BK858.out)) : gb877 ≠ gb858)); clear HO864; clear HO869; clear HO876; clear BK857; clear BK858; clear HB; have HO864 := n0_; have HO869 := n1_; have HO876 := n2_; have BK857 := n3_; have BK858 := n4_; have HB := n5_; have BK877 := n6_; have GW877 := n7_; have GE877 := n8_; have NB857_877 := n9_; have NB877_857 := n10_; have NB858_877 := n11_; have NB877_858 := n12_; clear n0_ n1_ n2_ n3_ n4_ n5_ n6_ n7_ n8_ n9_ n10_ n11_ n12_; clear hb hbox hg; have hnb38 := NB877_857.out; have hnc38 := NB857_877.out; have hnb39 := NB877_858.out; have hnc39 := NB858_877.out; have hcz40_0 : w37.cell? ⟨gb877, 0, none⟩ = some (.int .i64 0) := (blk_cell BK877.out 0).trans rfl; have hcz40_1 : w37.cell? ⟨gb877, 1, none⟩ = some (.int .i64 0) := (blk_cell BK877.out 1).trans rfl; have hcz40_2 : w37.cell? ⟨gb877, 2, none⟩ = some (.slice none 0 0) := (blk_cell BK877.out 2).trans rfl; have hfz40_0 := blk_frozen BK877.out 0; have hfz40_1 := blk_frozen BK877.out 1; have hfz40_2 := blk_frozen BK877.out 2; obtain ⟨Ao41, co41, eo41⟩ := Kd.R_slice HO876.out; subst eo41) | ((with_reducible refine gate_callee (f := 26) rfl ?_); refine goesL_ (some 35) rfl rfl Try.func26 (by kernel_rfl) rfl #[.slice A2 l2.length c2] rfl (by (try simp only [List.map_toArray, List.map_cons, List.map_nil]); first | done | rfl | (simp only [List.length_drop, List.length_take]; rfl)) ?_; (with_reducible refine (laws_toIntS.calls k _ _ l2 t878 _ ?side1 ?side2 A19.out).mono ?_); (case side1 => exact Kd.C_below HR2.out (by repeat (first | (with_reducible first | exact HB.out | apply below_alloc | apply pw_below_drewN | apply below_drew1 | refine below_set ?_ GE857.out | refine below_set ?_ GE858.out | refine below_set ?_ GE877.out) | exact HB.out))); (case side2 => exact HC2.out); rintro e w42 ⟨v879, rfl, ho0, hb⟩; refine ⟨_, rfl, ?_⟩; have n0_ := Aside0.mk (Kd.R_elder' (by (with_reducible repeat (first | apply Kd.R_alloc | apply Kd.R_drewN | apply Kd.R_drew)); exact (Kd.R_mono (Kd.R_far (p := ⟨gb877, 2, none⟩) (Kd.R_far (p := ⟨gb877, 1, none⟩) (Kd.R_far (p := ⟨gb877, 0, none⟩) (Kd.R_types HO864.out BK877.out (by decide)) (fun _ hk => hk.2) (.int .i64 t872)) (fun _ hk => hk.2) (.int .i64 t873)) (fun _ hk => hk.2) (.slice Ao41 t874.length co41)) (fun _ h_ => h_.1))) (Kd.R_base ho0) hb); have n1_ := Aside0.mk (Kd.R_elder' (by (with_reducible repeat (first | apply Kd.R_alloc | apply Kd.R_drewN | apply Kd.R_drew)); exact (Kd.R_mono (Kd.R_far (p := ⟨gb877, 2, none⟩) (Kd.R_far (p := ⟨gb877, 1, none⟩) (Kd.R_far (p := ⟨gb877, 0, none⟩) (Kd.R_types HO869.out BK877.out (by decide)) (fun _ hk => hk.2) (.int .i64 t872)) (fun _ hk => hk.2) (.int .i64 t873)) (fun _ hk => hk.2) (.slice Ao41 t874.length co41)) (fun _ h_ => h_.1))) (Kd.R_base ho0) hb); have n2_ := Aside0.mk (Kd.R_elder' (by (with_reducible repeat (first | apply Kd.R_alloc | apply Kd.R_drewN | apply Kd.R_drew)); exact (Kd.R_mono (Kd.R_far (p := ⟨gb877, 2, none⟩) (Kd.R_far (p := ⟨gb877, 1, none⟩) (Kd.R_far (p := ⟨gb877, 0, none⟩) (Kd.R_types HO876.out BK877.out (by decide)) (fun _ hk => hk.2) (.int .i64 t872)) (fun _ hk => hk.2) (.int .i64 t873)) (fun _ hk => hk.2) (.slice Ao41 t874.length co41)) (fun _ h_ => h_.1))) (Kd.R_base ho0) hb); have n3_ := Aside0.mk (Kd.R_lower (Kd.R_new' (Kd.R_new' (Kd.R_new' ho0 (Kd.R_lt (by (with_reducible repeat (first | apply Kd.R_alloc | apply Kd.R_drewN | apply Kd.R_drew)); exact (Kd.R_mono (Kd.R_far (p := ⟨gb877, 2, none⟩) (Kd.R_far (p := ⟨gb877, 1, none⟩) (Kd.R_far (p := ⟨gb877, 0, none⟩) (Kd.R_types HO864.out BK877.out (by decide)) (fun _ hk => hk.2) (.int .i64 t872)) (fun _ hk => hk.2) (.int .i64 t873)) (fun _ hk => hk.2) (.slice Ao41 t874.length co41)) (fun _ h_ => h_.1))))) (Kd.R_lt (by (with_reducible repeat (first | apply Kd.R_alloc | apply Kd.R_drewN | apply Kd.R_drew)); exact (Kd.R_mono (Kd.R_far (p := ⟨gb877, 2, none⟩) (Kd.R_far (p := ⟨gb877, 1, none⟩) (Kd.R_far (p := ⟨gb877, 0, none⟩) (Kd.R_types HO869.out BK877.out (by decide)) (fun _ hk => hk.2) (.int .i64 t872)) (fun _ hk => hk.2) (.int .i64 t873)) (fun _ hk => hk.2) (.slice Ao41 t874.length co41)) (fun _ h_ => h_.1))))) (Kd.R_lt (by (with_reducible repeat (first | apply Kd.R_alloc | apply Kd.R_drewN | apply Kd.R_drew)); exact (Kd.R_mono (Kd.R_far (p := ⟨gb877, 2, none⟩) (Kd.R_far (p := ⟨gb877, 1, none⟩) (Kd.R_far (p := ⟨gb877, 0, none⟩) (Kd.R_types HO876.out BK877.out (by decide)) (fun _ hk => hk.2) (.int .i64 t872)) (fun _ hk => hk.2) (.int .i64 t873)) (fun _ hk => hk.2) (.slice Ao41 t874.length co41)) (fun _ h_ => h_.1))))) (below_size (by repeat (first | (with_reducible first | exact HB.out | apply below_alloc | apply pw_below_drewN | apply below_drew1 | refine below_set ?_ GE857.out | refine below_set ?_ GE858.out | refine below_set ?_ GE877.out) | exact HB.out)))); have n4_ := Aside0.mk (blk_below (g := gb857) (o := .cells #[.int .i64 a0_0, .int .i64 a0_1, .slice A0_2 l0_2.length c0_2] 24 (0, 0)) (by (with_reducible repeat (first | refine blk_drewN ?_ _ | refine blk_drew ?_ | refine blk_alloc ?_ _)); refine blk_far ?_ NB857_877.out _; (with_reducible repeat (first | refine blk_drewN ?_ _ | refine blk_drew ?_ | refine blk_alloc ?_ _)); refine blk_far ?_ NB857_877.out _; (with_reducible repeat (first | refine blk_drewN ?_ _ | refine blk_drew ?_ | refine blk_alloc ?_ _)); refine blk_far ?_ NB857_877.out _; (with_reducible repeat (first | refine blk_drewN ?_ _ | refine blk_drew ?_ | refine blk_alloc ?_ _)); exact BK857.out) hb); have n5_ := Aside0.mk (blk_below (g := gb858) (o := .cells #[.int .i64 a1_0, .int .i64 a1_1] 26 (0, 0)) (by (with_reducible repeat (first | refine blk_drewN ?_ _ | refine blk_drew ?_ | refine blk_alloc ?_ _)); refine blk_far ?_ NB858_877.out _; (with_reducible repeat (first | refine blk_drewN ?_ _ | refine blk_drew ?_ | refine blk_alloc ?_ _)); refine blk_far ?_ NB858_877.out _; (with_reducible repeat (first | refine blk_drewN ?_ _ | refine blk_drew ?_ | refine blk_alloc ?_ _)); refine blk_far ?_ NB858_877.out _; (with_reducible repeat (first | refine blk_drewN ?_ _ | refine blk_drew ?_ | refine blk_alloc ?_ _)); exact BK858.out) hb); have n6_ := Aside0.mk (blk_below (g := gb877) (o := .cells #[.int .i64 t872, .int .i64 t873, .slice Ao41 t874.length co41] 30 (0, 0)) (by (with_reducible repeat (first | refine blk_drewN ?_ _ | refine blk_drew ?_ | refine blk_alloc ?_ _)); refine blk_put (cs := #[.int .i64 t872, .int .i64 t873, .slice none 0 0]) ?_ 2 _ rfl; (with_reducible repeat (first | refine blk_drewN ?_ _ | refine blk_drew ?_ | refine blk_alloc ?_ _)); refine blk_put (cs := #[.int .i64 t872, .int .i64 0, .slice none 0 0]) ?_ 1 _ rfl; (with_reducible repeat (first | refine blk_drewN ?_ _ | refine blk_drew ?_ | refine blk_alloc ?_ _)); refine blk_put (cs := #[.int .i64 0, .int .i64 0, .slice none 0 0]) ?_ 0 _ rfl; (with_reducible repeat (first | refine blk_drewN ?_ _ | refine blk_drew ?_ | refine blk_alloc ?_ _)); exact BK877.out) hb); have n7_ := Aside0.mk (below_step (by repeat (first | (with_reducible first | exact HB.out | apply below_alloc | apply pw_below_drewN | apply below_drew1 | refine below_set ?_ GE857.out | refine below_set ?_ GE858.out | refine below_set ?_ GE877.out) | exact HB.out)) hb); clear HO864; clear HO869; clear HO876; clear BK857; clear BK858; clear BK877; clear HB; have HO864 := n0_; have HO869 := n1_; have HO876 := n2_; have HO880 := n3_; have BK857 := n4_; have BK858 := n5_; have BK877 := n6_; have HB := n7_; clear n0_ n1_ n2_ n3_ n4_ n5_ n6_ n7_; (try clear hb); (try clear hb2); (try clear hk); (try clear hi); (try clear ho0); (try clear hna_); (try clear hnb_)))
   have n0_ := Aside0.mk (Kd.R_drew HO864.out)
   have n1_ := Aside0.mk (Kd.R_drew HO869.out)
   have n2_ := Aside0.mk (Kd.R_drew HO876.out)
   have n3_ := Aside0.mk (Kd.R_drew HO880.out)
   have n4_ := Aside0.mk (blk_drew BK857.out)
   have n5_ := Aside0.mk (blk_drew BK858.out)
   have n6_ := Aside0.mk (blk_drew BK877.out)
   have n7_ := Aside0.mk (below_drew1 HB.out)
   clear HO864
   clear HO869
   clear HO876
   clear HO880
   clear BK857
   clear BK858
   clear BK877
   clear HB
   have HO864 := n0_
   have HO869 := n1_
   have HO876 := n2_
   have HO880 := n3_
   have BK857 := n4_
   have BK858 := n5_
   have BK877 := n6_
   have HB := n7_
   clear n0_ n1_ n2_ n3_ n4_ n5_ n6_ n7_
   refine start_ (n := 10) (S := fun w' => w'.cell? ⟨gb877, 0, none⟩ = some (.int .i64 t872) ∧ w'.cell? ⟨gb877, 1, none⟩ = some (.int .i64 t873) ∧ w'.cell? ⟨gb877, 2, none⟩ = some (.slice Ao41 t874.length co41) ∧ w'.cell? ⟨gb858, 0, none⟩ = some (.int .i64 a1_0) ∧ w'.cell? ⟨gb858, 1, none⟩ = some (.int .i64 a1_1)) (ds := []) #[false, false, false, false, false, false, false, false, false, false] (by kernel_rfl) rfl rfl ⟨(blk_cell BK877.out 0).trans rfl, (blk_cell BK877.out 1).trans rfl, (blk_cell BK877.out 2).trans rfl, (blk_cell BK858.out 0).trans rfl, (blk_cell BK858.out 1).trans rfl⟩ (fun hHeld => ?_); refine with_tabW laws_FnExactIsClosedWalk.tab10 laws_FnExactIsClosedWalk.bits10 (fun HT_ HW_ => ?_)
   generalize w42.drew = w43 at HO864 HO869 HO876 HO880 BK857 BK858 BK877 HB hHeld ⊢
   refine pure_ (i := 3) (N := some 40) (v := ?_) (a' := ?_) #[false, false, false, true, false, false, false, false, false, false] rfl rfl (any_of HT_.out (by kernel_rfl)) (fun _ _ _ h => h) (Or.inl ⟨by rfl, ?_⟩) ?_ ?_
   rotate_left
   ·intro w'
    go_simp
    with_reducible rfl
   rotate_left
   ·simp only [Act.put, List.setIfInBounds_toArray, List.set_cons_zero, List.set_cons_succ, i64_w, i32_w]
    rfl
   refine take_ (i := 0) (N := some 37) (v := ?_) (a' := ?_) #[true, false, false, true, false, false, false, false, false, false] rfl rfl (take_ofW HT_.out HW_.out (by kernel_rfl)) (fun _ _ _ h => h) (Or.inl ⟨by rfl, ?_⟩) hHeld ?_ ?_
   rotate_left
   ·rintro w' ⟨s0, s1, s2, s3, s4⟩
    go_simp
    with_reducible rfl
   rotate_left
   ·simp only [Act.put, List.setIfInBounds_toArray, List.set_cons_zero, List.set_cons_succ, i64_w, i32_w]
    rfl
   refine take_ (i := 1) (N := some 38) (v := ?_) (a' := ?_) #[true, true, false, true, false, false, false, false, false, false] rfl rfl (take_ofW HT_.out HW_.out (by kernel_rfl)) (fun _ _ _ h => h) (Or.inl ⟨by rfl, ?_⟩) hHeld ?_ ?_
   rotate_left
   ·rintro w' ⟨s0, s1, s2, s3, s4⟩
    go_simp
    with_reducible rfl
   rotate_left
   ·simp only [Act.put, List.setIfInBounds_toArray, List.set_cons_zero, List.set_cons_succ, i64_w, i32_w]
    rfl
   refine one_ (i := 2) (N := some 39) #[true, true, true, true, false, false, false, false, false, false] rfl rfl (one_of HT_.out (by kernel_rfl)) (by decide) (fun K hK => ?_)
   refine goes_ Try.func18 (by kernel_rfl) rfl #[.agg #[.int .i64 a1_0, .int .i64 a1_1]] (by rfl) rfl rfl (by (try simp only [List.map_toArray, List.map_cons, List.map_nil]); first | done | rfl | (simp only [List.length_drop, List.length_take]; rfl)) ?_
   with_reducible refine (laws_toLeaper.calls a1_0 a1_1 t881 t882 _ A20.out).mono ?_
   rintro e w44 ⟨rfl, hb⟩
   refine ⟨_, rfl, ?_⟩
   have n0_ := Aside0.mk (Kd.R_below (by (with_reducible repeat (first | apply Kd.R_alloc | apply Kd.R_drewN | apply Kd.R_drew)); exact HO864.out) hb)
   have n1_ := Aside0.mk (Kd.R_below (by (with_reducible repeat (first | apply Kd.R_alloc | apply Kd.R_drewN | apply Kd.R_drew)); exact HO869.out) hb)
   have n2_ := Aside0.mk (Kd.R_below (by (with_reducible repeat (first | apply Kd.R_alloc | apply Kd.R_drewN | apply Kd.R_drew)); exact HO876.out) hb)
   have n3_ := Aside0.mk (Kd.R_below (by (with_reducible repeat (first | apply Kd.R_alloc | apply Kd.R_drewN | apply Kd.R_drew)); exact HO880.out) hb)
   have n4_ := Aside0.mk (blk_below (g := gb857) (o := .cells #[.int .i64 a0_0, .int .i64 a0_1, .slice A0_2 l0_2.length c0_2] 24 (0, 0)) (by (with_reducible repeat (first | refine blk_drewN ?_ _ | refine blk_drew ?_ | refine blk_alloc ?_ _)); exact BK857.out) hb)
   have n5_ := Aside0.mk (blk_below (g := gb858) (o := .cells #[.int .i64 a1_0, .int .i64 a1_1] 26 (0, 0)) (by (with_reducible repeat (first | refine blk_drewN ?_ _ | refine blk_drew ?_ | refine blk_alloc ?_ _)); exact BK858.out) hb)
   have n6_ := Aside0.mk (blk_below (g := gb877) (o := .cells #[.int .i64 t872, .int .i64 t873, .slice Ao41 t874.length co41] 30 (0, 0)) (by (with_reducible repeat (first | refine blk_drewN ?_ _ | refine blk_drew ?_ | refine blk_alloc ?_ _)); exact BK877.out) hb)
   have n7_ := Aside0.mk (below_step (by repeat (first | (with_reducible first | exact HB.out | apply below_alloc | apply pw_below_drewN | apply below_drew1 | refine below_set ?_ GE857.out | refine below_set ?_ GE858.out | refine below_set ?_ GE877.out) | exact HB.out)) hb)
   clear HO864
   clear HO869
   clear HO876
   clear HO880
   clear BK857
   clear BK858
   clear BK877
   clear HB
   have HO864 := n0_
   have HO869 := n1_
   have HO876 := n2_
   have HO880 := n3_
   have BK857 := n4_
   have BK858 := n5_
   have BK877 := n6_
   have HB := n7_
   clear n0_ n1_ n2_ n3_ n4_ n5_ n6_ n7_
   (try clear hb)
   (try clear hb2)
   (try clear hk)
   (try clear hi)
   (try clear hna_)
   (try clear hnb_)
   obtain ⟨Ao45, co45, eo45⟩ := Kd.R_slice HO880.out
   (first | subst eo45 | (injection eo45 with f1_ f2_ f3_; have f4_ := f1_.symm; have f5_ := f3_.symm; clear f1_ f2_ f3_; subst f4_; subst f5_))
   refine hK.out _ _ ⟨(blk_cell BK877.out 0).trans rfl, (blk_cell BK877.out 1).trans rfl, (blk_cell BK877.out 2).trans rfl, (blk_cell BK858.out 0).trans rfl, (blk_cell BK858.out 1).trans rfl⟩ (fun hHeld => ?_)
   clear hK K
   refine norm_ (a' := ?_) ?_ ?_
   rotate_left
   ·show Act.put _ (some 39) _ = _
    simp only [Act.put, List.setIfInBounds_toArray, List.set_cons_zero, List.set_cons_succ, i64_w, i32_w]
    rfl
   refine one_ (i := 4) (N := some 41) #[true, true, true, true, true, false, false, false, false, false] rfl rfl (one_of HT_.out (by kernel_rfl)) (by decide) (fun K hK => ?_)
   refine goes_ Try.func37 (by kernel_rfl) rfl #[.agg #[.int .i64 t872, .int .i64 t873, .slice Ao41 t874.length co41], .agg #[.int .i64 t881, .int .i64 t882], .slice Ao45 t878.length co45] (by rfl) rfl rfl (by (try simp only [List.map_toArray, List.map_cons, List.map_nil]); first | done | rfl | (simp only [List.length_drop, List.length_take]; rfl)) ?_
   with_reducible refine (impl_IsClosedWalk.calls k t872 t873 _ _ t874 t881 t882 _ _ t878 t883 t884 _ ?side1 ?side2 ?side3 ?side4 A21.out).mono ?_
   (case side1 => repeat (first | exact (Kd.R_reads' HO876.out).2.2 | (with_reducible refine Kd.C_alloc ?_ _) | (with_reducible refine Kd.C_drewN ?_ _) | (with_reducible refine Kd.C_drew ?_)))
   (case side2 => exact (Kd.R_reads' HO876.out).2.1)
   (case side3 => repeat (first | exact (Kd.R_reads' HO880.out).2.2 | (with_reducible refine Kd.C_alloc ?_ _) | (with_reducible refine Kd.C_drewN ?_ _) | (with_reducible refine Kd.C_drew ?_)))
   (case side4 => exact (Kd.R_reads' HO880.out).2.1)
   rintro e w46 ⟨rfl, hb⟩
   refine ⟨_, rfl, ?_⟩
   have n0_ := Aside0.mk (Kd.R_below (by (with_reducible repeat (first | apply Kd.R_alloc | apply Kd.R_drewN | apply Kd.R_drew)); exact HO864.out) hb)
   have n1_ := Aside0.mk (Kd.R_below (by (with_reducible repeat (first | apply Kd.R_alloc | apply Kd.R_drewN | apply Kd.R_drew)); exact HO869.out) hb)
   have n2_ := Aside0.mk (Kd.R_below (by (with_reducible repeat (first | apply Kd.R_alloc | apply Kd.R_drewN | apply Kd.R_drew)); exact HO876.out) hb)
   have n3_ := Aside0.mk (Kd.R_below (by (with_reducible repeat (first | apply Kd.R_alloc | apply Kd.R_drewN | apply Kd.R_drew)); exact HO880.out) hb)
   have n4_ := Aside0.mk (blk_below (g := gb857) (o := .cells #[.int .i64 a0_0, .int .i64 a0_1, .slice A0_2 l0_2.length c0_2] 24 (0, 0)) (by (with_reducible repeat (first | refine blk_drewN ?_ _ | refine blk_drew ?_ | refine blk_alloc ?_ _)); exact BK857.out) hb)
   have n5_ := Aside0.mk (blk_below (g := gb858) (o := .cells #[.int .i64 a1_0, .int .i64 a1_1] 26 (0, 0)) (by (with_reducible repeat (first | refine blk_drewN ?_ _ | refine blk_drew ?_ | refine blk_alloc ?_ _)); exact BK858.out) hb)
   have n6_ := Aside0.mk (blk_below (g := gb877) (o := .cells #[.int .i64 t872, .int .i64 t873, .slice Ao41 t874.length co41] 30 (0, 0)) (by (with_reducible repeat (first | refine blk_drewN ?_ _ | refine blk_drew ?_ | refine blk_alloc ?_ _)); exact BK877.out) hb)
   have n7_ := Aside0.mk (below_step (by repeat (first | (with_reducible first | exact HB.out | apply below_alloc | apply pw_below_drewN | apply below_drew1 | refine below_set ?_ GE857.out | refine below_set ?_ GE858.out | refine below_set ?_ GE877.out) | exact HB.out)) hb)
   clear HO864
   clear HO869
   clear HO876
   clear HO880
   clear BK857
   clear BK858
   clear BK877
   clear HB
   have HO864 := n0_
   have HO869 := n1_
   have HO876 := n2_
   have HO880 := n3_
   have BK857 := n4_
   have BK858 := n5_
   have BK877 := n6_
   have HB := n7_
   clear n0_ n1_ n2_ n3_ n4_ n5_ n6_ n7_
   (try clear hb)
   (try clear hb2)
   (try clear hk)
   (try clear hi)
   (try clear hna_)
   (try clear hnb_)
   refine hK.out _ _ ⟨(blk_cell BK877.out 0).trans rfl, (blk_cell BK877.out 1).trans rfl, (blk_cell BK877.out 2).trans rfl, (blk_cell BK858.out 0).trans rfl, (blk_cell BK858.out 1).trans rfl⟩ (fun hHeld => ?_)
   clear hK K
   refine norm_ (a' := ?_) ?_ ?_
   rotate_left
   ·show Act.put _ (some 41) _ = _
    simp only [Act.put, List.setIfInBounds_toArray, List.set_cons_zero, List.set_cons_succ, i64_w, i32_w]
    rfl
   refine pure_ (i := 5) (N := some 36) (v := ?_) (a' := ?_) #[true, true, true, true, true, true, false, false, false, false] rfl rfl (any_of HT_.out (by kernel_rfl)) (fun _ _ _ h => h) (Or.inl ⟨by rfl, ?_⟩) ?_ ?_
   rotate_left
   ·intro w'
    go_simp
    with_reducible rfl
   rotate_left
   ·simp only [Act.put, List.setIfInBounds_toArray, List.set_cons_zero, List.set_cons_succ, i64_w, i32_w]
    rfl
   refine pure_ (i := 6) (N := some 42) (v := ?_) (a' := ?_) #[true, true, true, true, true, true, true, false, false, false] rfl rfl (any_of HT_.out (by kernel_rfl)) (fun _ _ _ h => h) (Or.inl ⟨by rfl, ?_⟩) ?_ ?_
   rotate_left
   ·intro w'
    go_simp
    with_reducible rfl
   rotate_left
   ·simp only [Act.put, List.setIfInBounds_toArray, List.set_cons_zero, List.set_cons_succ, i64_w, i32_w]
    rfl
   refine pure_ (i := 7) (N := some 43) (v := ?_) (a' := ?_) #[true, true, true, true, true, true, true, true, false, false] rfl rfl (any_of HT_.out (by kernel_rfl)) (fun _ _ _ h => h) (Or.inl ⟨by rfl, ?_⟩) ?_ ?_
   rotate_left
   ·intro w'
    go_simp
    with_reducible rfl
   rotate_left
   ·simp only [Act.put, List.setIfInBounds_toArray, List.set_cons_zero, List.set_cons_succ, i64_w, i32_w]
    rfl
   refine pure_ (i := 8) (N := some 12) (v := ?_) (a' := ?_) #[true, true, true, true, true, true, true, true, true, false] rfl rfl (any_of HT_.out (by kernel_rfl)) (fun _ _ _ h => h) (Or.inl ⟨by rfl, ?_⟩) ?_ ?_
   rotate_left
   ·intro w'
    go_simp
    with_reducible rfl
   rotate_left
   ·simp only [Act.put, List.setIfInBounds_toArray, List.set_cons_zero, List.set_cons_succ, i64_w, i32_w]
    rfl
   refine pure_ (i := 9) (N := some 13) (v := ?_) (a' := ?_) #[true, true, true, true, true, true, true, true, true, true] rfl rfl (any_of HT_.out (by kernel_rfl)) (fun _ _ _ h => h) (Or.inl ⟨by rfl, ?_⟩) ?_ ?_
   rotate_left
   ·intro w'
    go_simp
    with_reducible rfl
   rotate_left
   ·simp only [Act.put, List.setIfInBounds_toArray, List.set_cons_zero, List.set_cons_succ, i64_w, i32_w]
    rfl
   refine done_ (done_of HT_.out (by kernel_rfl)) ?_
   go_upto_region 11 with (fail)
   go_cut [51] (fun v51 wc => ∃ (kq : Nat) (x51_21 : Bool), v51 = .bool x51_21 ∧ Aside0 (laws_FnExactIsClosedWalk.j0 kq l2 t878 x51_21 a0_0 a0_1 l0_2 t872 t873 t874 = some r) ∧ Aside0 (kq ≤ k) ∧ Aside0 (Kd.R (Kd.int .i64) 3 wc w.heap.size (fun k_ => some k_ ≠ ((.slice Ao41 t874.length co41) : Value).ownBlock) (.slice Ao45 t878.length co45) t878) ∧ Aside0 (Kd.R (Kd.int .i64) 3 wc w.heap.size (fun k_ => some k_ ≠ ((.slice Ao45 t878.length co45) : Value).ownBlock) (.slice Ao41 t874.length co41) t874) ∧ Aside0 (wc.heap[gb857]? = some (.cells #[.int .i64 a0_0, .int .i64 a0_1, (.slice A0_2 l0_2.length c0_2)] 24 (0, 0))) ∧ Aside0 (wc.heap[gb858]? = some (.cells #[.int .i64 a1_0, .int .i64 a1_1] 26 (0, 0))) ∧ Aside0 (wc.heap[gb877]? = some (.cells #[.int .i64 t872, .int .i64 t873, (.slice Ao41 t874.length co41)] 30 (0, 0))) ∧ Aside0 (Below w.heap.size w wc))
   case first =>
    have H := HC22.out
    clear HC22
    by_cases c47 : (t883 != t870) = true
    ·rw [if_pos c47] at H
     have c47b0 : (t883 != t870) = true := c47
     (try (have c47b1 : decide (t883 = t870) = false := by simpa using c47))
     (try (have c47b2 : (t883 == t870) = false := by simpa using c47))
     (try (have c47b3 : ¬ (t883 = t870) := by simpa using c47))
     clear c47
     (first | rw [c47b0] | (simp only [i64_w, i32_w]; rw [c47b0]) | skip)
     have H' := Aside0.mk H
     clear H
     go_wp2
     go_meet
     case rel => exact ⟨_, (true), (by first | rfl | (simp; done) | (simp [*]; done)), H', ⟨by first | omega | exact Nat.le_refl _⟩, ⟨by (with_reducible repeat (first | apply Kd.R_alloc | apply Kd.R_drewN | apply Kd.R_drew)); exact Kd.R_mono HO880.out (fun _ hk => hk.2)⟩, ⟨by (with_reducible repeat (first | apply Kd.R_alloc | apply Kd.R_drewN | apply Kd.R_drew)); exact Kd.R_mono HO876.out (fun _ hk => hk.2)⟩, ⟨by (with_reducible repeat (first | refine blk_drewN ?_ _ | refine blk_drew ?_ | refine blk_alloc ?_ _)); exact BK857.out⟩, ⟨by (with_reducible repeat (first | refine blk_drewN ?_ _ | refine blk_drew ?_ | refine blk_alloc ?_ _)); exact BK858.out⟩, ⟨by (with_reducible repeat (first | refine blk_drewN ?_ _ | refine blk_drew ?_ | refine blk_alloc ?_ _)); exact BK877.out⟩, ⟨by repeat (first | (with_reducible first | exact HB.out | apply below_alloc | apply pw_below_drewN | apply below_drew1 | refine below_set ?_ GE857.out | refine below_set ?_ GE858.out | refine below_set ?_ GE877.out) | exact HB.out)⟩⟩
    ·rw [if_neg c47] at H
     have c47b0 : (t883 != t870) = false := by simpa using c47
     (try (have c47b1 : decide (t883 = t870) = true := by simpa using c47))
     (try (have c47b2 : (t883 == t870) = true := by simpa using c47))
     clear c47
     (first | rw [c47b0] | (simp only [i64_w, i32_w]; rw [c47b0]) | skip)
     have H' := Aside0.mk H
     clear H
     go_wp2
     go_meet
     case rel => exact ⟨_, ((t884 != t871)), (by first | rfl | (simp; done) | (simp [*]; done)), H', ⟨by first | omega | exact Nat.le_refl _⟩, ⟨by (with_reducible repeat (first | apply Kd.R_alloc | apply Kd.R_drewN | apply Kd.R_drew)); exact Kd.R_mono HO880.out (fun _ hk => hk.2)⟩, ⟨by (with_reducible repeat (first | apply Kd.R_alloc | apply Kd.R_drewN | apply Kd.R_drew)); exact Kd.R_mono HO876.out (fun _ hk => hk.2)⟩, ⟨by (with_reducible repeat (first | refine blk_drewN ?_ _ | refine blk_drew ?_ | refine blk_alloc ?_ _)); exact BK857.out⟩, ⟨by (with_reducible repeat (first | refine blk_drewN ?_ _ | refine blk_drew ?_ | refine blk_alloc ?_ _)); exact BK858.out⟩, ⟨by (with_reducible repeat (first | refine blk_drewN ?_ _ | refine blk_drew ?_ | refine blk_alloc ?_ _)); exact BK877.out⟩, ⟨by repeat (first | (with_reducible first | exact HB.out | apply below_alloc | apply pw_below_drewN | apply below_drew1 | refine below_set ?_ GE857.out | refine below_set ?_ GE858.out | refine below_set ?_ GE877.out) | exact HB.out)⟩⟩
   case rest =>
    clear HC22
    try clear c1; try clear c2; try clear p2; try clear c3; try clear c4; try clear c4b0; try clear c4b1; try clear c8; try clear c8b0; try clear c9; try clear c11; try clear c15; try clear c17; try clear c18; try clear c25; try clear c26; try clear c36; try clear c37; try clear c38; try clear c39; try clear c47; try clear c47b0; try clear c47b1; try clear c47b2; try clear hcz12_0; try clear hcz12_1; try clear hcz12_2; try clear hcz26_0; try clear hcz26_1; try clear hcz26_2; try clear hcz35_0; try clear hcz35_1; try clear hcz35_2; try clear hcz40_0; try clear hcz40_1; try clear hcz40_2; try clear hfz12_0
    try clear hfz12_1; try clear hfz12_2; try clear hfz26_0; try clear hfz26_1; try clear hfz26_2; try clear hfz35_0; try clear hfz35_1; try clear hfz35_2; try clear hfz40_0; try clear hfz40_1; try clear hfz40_2
    obtain ⟨kq, x51_21, rfl, HA, HJ21, HO_11, HO_878002, BK857, BK858, BK877, HB⟩ := hcut
    cases kq with
    | zero => exact absurd HA.out (by simp [laws_FnExactIsClosedWalk.j0])
    | succ kj21 =>
     have H := HA.out
     clear HA
     simp only [laws_FnExactIsClosedWalk.j0] at H
     by_cases c48 : x51_21 = true
     ·subst c48
      have H1 : (some false) = some r := by rw [if_pos rfl] at H; exact H
      clear H
      have H := H1
      clear H1
      obtain rfl := Option.some.inj H
      go_wp2
      go_ret
      exact ⟨by first | rfl | (simp [errW_none, errW_some] <;> rfl) | (simp [*, errW_none, errW_some] <;> rfl), by repeat (first | (with_reducible first | exact HB.out | apply below_alloc | apply pw_below_drewN | apply below_drew1 | refine below_set ?_ GE857.out | refine below_set ?_ GE858.out | refine below_set ?_ GE877.out) | exact HB.out)⟩
     ·replace c48 := Bool.eq_false_iff.mpr c48
      subst c48
      have H1 : ((laws_toBoard.f kj21 a0_0 a0_1 l0_2).bind fun bt885 => ((laws_eqBoard.f kj21 t872 t873 t874 bt885.1 bt885.2.1 bt885.2.2).bind fun t890 => (if t890 = true then ((laws_toIntS.f kj21 l2).bind fun t891 => ((laws_eqIntS.f kj21 t878 t891).bind fun t894 => (if t894 = true then (some true) else (some false)))) else (some false)))) = some r := by rw [if_neg (show ¬ (false = true) by decide)] at H; exact H
      clear H
      have H := H1
      clear H1
      replace H := Option.bind_eq_some_iff.mp H
      obtain ⟨⟨t885, t886, t887⟩, A490, H⟩ := H
      replace H : ((laws_eqBoard.f kj21 t872 t873 t874 t885 t886 t887).bind fun t890 => (if t890 = true then ((laws_toIntS.f kj21 l2).bind fun t891 => ((laws_eqIntS.f kj21 t878 t891).bind fun t894 => (if t894 = true then (some true) else (some false)))) else (some false))) = some r := H
      have A49 := Aside0.mk A490
      clear A490
      replace H := Option.bind_eq_some_iff.mp H
      obtain ⟨t890, A500, H⟩ := H
      replace H : (if t890 = true then ((laws_toIntS.f kj21 l2).bind fun t891 => ((laws_eqIntS.f kj21 t878 t891).bind fun t894 => (if t894 = true then (some true) else (some false)))) else (some false)) = some r := H
      have A50 := Aside0.mk A500
      clear A500
      by_cases c51 : t890 = true
      ·subst c51
       have H1 : ((laws_toIntS.f kj21 l2).bind fun t891 => ((laws_eqIntS.f kj21 t878 t891).bind fun t894 => (if t894 = true then (some true) else (some false)))) = some r := by rw [if_pos rfl] at H; exact H
       clear H
       have H := H1
       clear H1
       replace H := Option.bind_eq_some_iff.mp H
       obtain ⟨t891, A520, H⟩ := H
       replace H : ((laws_eqIntS.f kj21 t878 t891).bind fun t894 => (if t894 = true then (some true) else (some false))) = some r := H
       have A52 := Aside0.mk A520
       clear A520
       replace H := Option.bind_eq_some_iff.mp H
       obtain ⟨t894, A530, H⟩ := H
       replace H : (if t894 = true then (some true) else (some false)) = some r := H
       have A53 := Aside0.mk A530
       clear A530
       by_cases c54 : t894 = true
       ·subst c54
        have H1 : (some true) = some r := by rw [if_pos rfl] at H; exact H
        clear H
        have H := H1
        clear H1
        obtain rfl := Option.some.inj H
        try go_wp2
        have n0_ := Aside0.mk (Kd.R_drew HO_11.out)
        have n1_ := Aside0.mk (Kd.R_drew HO_878002.out)
        have n2_ := Aside0.mk (blk_drew BK857.out)
        have n3_ := Aside0.mk (blk_drew BK858.out)
        have n4_ := Aside0.mk (blk_drew BK877.out)
        have n5_ := Aside0.mk (below_drew1 HB.out)
        clear HO_11
        clear HO_878002
        clear BK857
        clear BK858
        clear BK877
        clear HB
        have HO_11 := n0_
        have HO_878002 := n1_
        have BK857 := n2_
        have BK858 := n3_
        have BK877 := n4_
        have HB := n5_
        clear n0_ n1_ n2_ n3_ n4_ n5_
        refine start_ (n := 5) (S := fun w' => w'.cell? ⟨gb877, 0, none⟩ = some (.int .i64 t872) ∧ w'.cell? ⟨gb877, 1, none⟩ = some (.int .i64 t873) ∧ w'.cell? ⟨gb877, 2, none⟩ = some (.slice Ao41 t874.length co41) ∧ w'.cell? ⟨gb857, 0, none⟩ = some (.int .i64 a0_0) ∧ w'.cell? ⟨gb857, 1, none⟩ = some (.int .i64 a0_1) ∧ w'.cell? ⟨gb857, 2, none⟩ = some (.slice A0_2 l0_2.length c0_2)) (ds := []) #[false, false, false, false, false] (by kernel_rfl) rfl rfl ⟨(blk_cell BK877.out 0).trans rfl, (blk_cell BK877.out 1).trans rfl, (blk_cell BK877.out 2).trans rfl, (blk_cell BK857.out 0).trans rfl, (blk_cell BK857.out 1).trans rfl, (blk_cell BK857.out 2).trans rfl⟩ (fun hHeld => ?_)
        generalize wc.drew = w55 at HO_11 HO_878002 BK857 BK858 BK877 HB hHeld ⊢
        refine take_ (i := 0) (N := some 52) (v := ?_) (a' := ?_) #[true, false, false, false, false] rfl rfl (by kernel_rfl) (fun _ _ _ h => h) (Or.inl ⟨by rfl, ?_⟩) hHeld ?_ ?_
        rotate_left
        ·rintro w' ⟨s0, s1, s2, s3, s4, s5⟩
         go_simp
         with_reducible rfl
        rotate_left
        ·simp only [Act.put, List.setIfInBounds_toArray, List.set_cons_zero, List.set_cons_succ, i64_w, i32_w]
         rfl
        refine take_ (i := 1) (N := some 53) (v := ?_) (a' := ?_) #[true, true, false, false, false] rfl rfl (by kernel_rfl) (fun _ _ _ h => h) (Or.inl ⟨by rfl, ?_⟩) hHeld ?_ ?_
        rotate_left
        ·rintro w' ⟨s0, s1, s2, s3, s4, s5⟩
         go_simp
         with_reducible rfl
        rotate_left
        ·simp only [Act.put, List.setIfInBounds_toArray, List.set_cons_zero, List.set_cons_succ, i64_w, i32_w]
         rfl
        refine one_ (i := 2) (N := some 54) #[true, true, true, false, false] rfl rfl (by kernel_rfl) (by decide) (fun K hK => ?_)
        refine goes_ Try.func17 (by kernel_rfl) rfl #[.agg #[.int .i64 a0_0, .int .i64 a0_1, .slice A0_2 l0_2.length c0_2]] (by rfl) rfl rfl (by (try simp only [List.map_toArray, List.map_cons, List.map_nil]); first | done | rfl | (simp only [List.length_drop, List.length_take]; rfl)) ?_
        with_reducible refine (laws_toBoard.calls kj21 a0_0 a0_1 _ _ l0_2 t885 t886 t887 _ ?side1 ?side2 A49.out).mono ?_
        (case side1 => repeat (first | exact (Kd.C_below HR0_2.out HB.out) | (with_reducible refine Kd.C_alloc ?_ _) | (with_reducible refine Kd.C_drewN ?_ _) | (with_reducible refine Kd.C_drew ?_)))
        (case side2 => exact HC0_2.out)
        rintro e w56 ⟨v888, rfl, ho0, hb⟩
        refine ⟨_, rfl, ?_⟩
        have n0_ := Aside0.mk (Kd.R_elder' (by (with_reducible repeat (first | apply Kd.R_alloc | apply Kd.R_drewN | apply Kd.R_drew)); exact HO_11.out) (Kd.R_base ho0) hb)
        have n1_ := Aside0.mk (Kd.R_elder' (by (with_reducible repeat (first | apply Kd.R_alloc | apply Kd.R_drewN | apply Kd.R_drew)); exact HO_878002.out) (Kd.R_base ho0) hb)
        have n2_ := Aside0.mk (Kd.R_lower (Kd.R_new' (Kd.R_new' ho0 (Kd.R_lt (by (with_reducible repeat (first | apply Kd.R_alloc | apply Kd.R_drewN | apply Kd.R_drew)); exact HO_11.out))) (Kd.R_lt (by (with_reducible repeat (first | apply Kd.R_alloc | apply Kd.R_drewN | apply Kd.R_drew)); exact HO_878002.out))) (below_size (by repeat (first | (with_reducible first | exact HB.out | apply below_alloc | apply pw_below_drewN | apply below_drew1 | refine below_set ?_ GE857.out | refine below_set ?_ GE858.out | refine below_set ?_ GE877.out) | exact HB.out))))
        have n3_ := Aside0.mk (blk_below (g := gb857) (o := .cells #[.int .i64 a0_0, .int .i64 a0_1, .slice A0_2 l0_2.length c0_2] 24 (0, 0)) (by (with_reducible repeat (first | refine blk_drewN ?_ _ | refine blk_drew ?_ | refine blk_alloc ?_ _)); exact BK857.out) hb)
        have n4_ := Aside0.mk (blk_below (g := gb858) (o := .cells #[.int .i64 a1_0, .int .i64 a1_1] 26 (0, 0)) (by (with_reducible repeat (first | refine blk_drewN ?_ _ | refine blk_drew ?_ | refine blk_alloc ?_ _)); exact BK858.out) hb)
        have n5_ := Aside0.mk (blk_below (g := gb877) (o := .cells #[.int .i64 t872, .int .i64 t873, .slice Ao41 t874.length co41] 30 (0, 0)) (by (with_reducible repeat (first | refine blk_drewN ?_ _ | refine blk_drew ?_ | refine blk_alloc ?_ _)); exact BK877.out) hb)
        have n6_ := Aside0.mk (below_step (by repeat (first | (with_reducible first | exact HB.out | apply below_alloc | apply pw_below_drewN | apply below_drew1 | refine below_set ?_ GE857.out | refine below_set ?_ GE858.out | refine below_set ?_ GE877.out) | exact HB.out)) hb)
        clear HO_11
        clear HO_878002
        clear BK857
        clear BK858
        clear BK877
        clear HB
        have HO_11 := n0_
        have HO_878002 := n1_
        have HO889 := n2_
        have BK857 := n3_
        have BK858 := n4_
        have BK877 := n5_
        have HB := n6_
        clear n0_ n1_ n2_ n3_ n4_ n5_ n6_
        (try clear hb)
        (try clear hb2)
        (try clear hk)
        (try clear hi)
        (try clear ho0)
        (try clear hna_)
        (try clear hnb_)
        obtain ⟨Ao57, co57, eo57⟩ := Kd.R_slice HO889.out
        (first | subst eo57 | (injection eo57 with f1_ f2_ f3_; have f4_ := f1_.symm; have f5_ := f3_.symm; clear f1_ f2_ f3_; subst f4_; subst f5_))
        refine hK.out _ _ ⟨(blk_cell BK877.out 0).trans rfl, (blk_cell BK877.out 1).trans rfl, (blk_cell BK877.out 2).trans rfl, (blk_cell BK857.out 0).trans rfl, (blk_cell BK857.out 1).trans rfl, (blk_cell BK857.out 2).trans rfl⟩ (fun hHeld => ?_)
        clear hK K
        refine norm_ (a' := ?_) ?_ ?_
        rotate_left
        ·show Act.put _ (some 54) _ = _
         simp only [Act.put, List.setIfInBounds_toArray, List.set_cons_zero, List.set_cons_succ, i64_w, i32_w]
         rfl
        refine one_ (i := 3) (N := some 55) #[true, true, true, true, false] rfl rfl (by kernel_rfl) (by decide) (fun K hK => ?_)
        refine goes_ Try.func21 (by kernel_rfl) rfl #[.agg #[.int .i64 t872, .int .i64 t873, .slice Ao41 t874.length co41], .agg #[.int .i64 t885, .int .i64 t886, .slice Ao57 t887.length co57]] (by rfl) rfl rfl (by (try simp only [List.map_toArray, List.map_cons, List.map_nil]); first | done | rfl | (simp only [List.length_drop, List.length_take]; rfl)) ?_
        with_reducible refine (laws_eqBoard.calls kj21 t872 t873 _ _ t874 t885 t886 _ _ t887 true _ ?side1 ?side2 ?side3 ?side4 A50.out).mono ?_
        (case side1 => repeat (first | exact (Kd.R_reads' HO_878002.out).2.2 | (with_reducible refine Kd.C_alloc ?_ _) | (with_reducible refine Kd.C_drewN ?_ _) | (with_reducible refine Kd.C_drew ?_)))
        (case side2 => exact (Kd.R_reads' HO_878002.out).2.1)
        (case side3 => repeat (first | exact (Kd.R_reads' HO889.out).2.2 | (with_reducible refine Kd.C_alloc ?_ _) | (with_reducible refine Kd.C_drewN ?_ _) | (with_reducible refine Kd.C_drew ?_)))
        (case side4 => exact (Kd.R_reads' HO889.out).2.1)
        rintro e w58 ⟨rfl, hb⟩
        refine ⟨_, rfl, ?_⟩
        have n0_ := Aside0.mk (Kd.R_below (by (with_reducible repeat (first | apply Kd.R_alloc | apply Kd.R_drewN | apply Kd.R_drew)); exact HO_11.out) hb)
        have n1_ := Aside0.mk (Kd.R_below (by (with_reducible repeat (first | apply Kd.R_alloc | apply Kd.R_drewN | apply Kd.R_drew)); exact HO_878002.out) hb)
        have n2_ := Aside0.mk (Kd.R_below (by (with_reducible repeat (first | apply Kd.R_alloc | apply Kd.R_drewN | apply Kd.R_drew)); exact HO889.out) hb)
        have n3_ := Aside0.mk (blk_below (g := gb857) (o := .cells #[.int .i64 a0_0, .int .i64 a0_1, .slice A0_2 l0_2.length c0_2] 24 (0, 0)) (by (with_reducible repeat (first | refine blk_drewN ?_ _ | refine blk_drew ?_ | refine blk_alloc ?_ _)); exact BK857.out) hb)
        have n4_ := Aside0.mk (blk_below (g := gb858) (o := .cells #[.int .i64 a1_0, .int .i64 a1_1] 26 (0, 0)) (by (with_reducible repeat (first | refine blk_drewN ?_ _ | refine blk_drew ?_ | refine blk_alloc ?_ _)); exact BK858.out) hb)
        have n5_ := Aside0.mk (blk_below (g := gb877) (o := .cells #[.int .i64 t872, .int .i64 t873, .slice Ao41 t874.length co41] 30 (0, 0)) (by (with_reducible repeat (first | refine blk_drewN ?_ _ | refine blk_drew ?_ | refine blk_alloc ?_ _)); exact BK877.out) hb)
        have n6_ := Aside0.mk (below_step (by repeat (first | (with_reducible first | exact HB.out | apply below_alloc | apply pw_below_drewN | apply below_drew1 | refine below_set ?_ GE857.out | refine below_set ?_ GE858.out | refine below_set ?_ GE877.out) | exact HB.out)) hb)
        clear HO_11
        clear HO_878002
        clear HO889
        clear BK857
        clear BK858
        clear BK877
        clear HB
        have HO_11 := n0_
        have HO_878002 := n1_
        have HO889 := n2_
        have BK857 := n3_
        have BK858 := n4_
        have BK877 := n5_
        have HB := n6_
        clear n0_ n1_ n2_ n3_ n4_ n5_ n6_
        (try clear hb)
        (try clear hb2)
        (try clear hk)
        (try clear hi)
        (try clear hna_)
        (try clear hnb_)
        refine hK.out _ _ ⟨(blk_cell BK877.out 0).trans rfl, (blk_cell BK877.out 1).trans rfl, (blk_cell BK877.out 2).trans rfl, (blk_cell BK857.out 0).trans rfl, (blk_cell BK857.out 1).trans rfl, (blk_cell BK857.out 2).trans rfl⟩ (fun hHeld => ?_)
        clear hK K
        refine norm_ (a' := ?_) ?_ ?_
        rotate_left
        ·show Act.put _ (some 55) _ = _
         simp only [Act.put, List.setIfInBounds_toArray, List.set_cons_zero, List.set_cons_succ, i64_w, i32_w]
         rfl
        refine pure_ (i := 4) (N := some 56) (v := ?_) (a' := ?_) #[true, true, true, true, true] rfl rfl (by kernel_rfl) (fun _ _ _ h => h) (Or.inl ⟨by rfl, ?_⟩) ?_ ?_
        rotate_left
        ·intro w'
         go_simp
         with_reducible rfl
        rotate_left
        ·simp only [Act.put, List.setIfInBounds_toArray, List.set_cons_zero, List.set_cons_succ, i64_w, i32_w]
         rfl
        refine done_ (by kernel_rfl) ?_
        try go_wp2_with (first | ((with_reducible refine gate_callee (f := 26) rfl ?_); refine goesL_ (some 59) rfl rfl Try.func26 (by kernel_rfl) rfl #[.slice A2 l2.length c2] rfl (by (try simp only [List.map_toArray, List.map_cons, List.map_nil]); first | done | rfl | (simp only [List.length_drop, List.length_take]; rfl)) ?_; (with_reducible refine (laws_toIntS.calls kj21 _ _ l2 t891 _ ?side1 ?side2 A52.out).mono ?_); (case side1 => repeat (first | exact (Kd.C_below HR2.out HB.out) | (with_reducible refine Kd.C_alloc ?_ _) | (with_reducible refine Kd.C_drewN ?_ _) | (with_reducible refine Kd.C_drew ?_))); (case side2 => exact HC2.out); rintro e w59 ⟨v892, rfl, ho0, hb⟩; refine ⟨_, rfl, ?_⟩; have n0_ := Aside0.mk (Kd.R_elder' (by (with_reducible repeat (first | apply Kd.R_alloc | apply Kd.R_drewN | apply Kd.R_drew)); exact HO_11.out) (Kd.R_base ho0) hb); have n1_ := Aside0.mk (Kd.R_elder' (by (with_reducible repeat (first | apply Kd.R_alloc | apply Kd.R_drewN | apply Kd.R_drew)); exact HO_878002.out) (Kd.R_base ho0) hb); have n2_ := Aside0.mk (Kd.R_elder' (by (with_reducible repeat (first | apply Kd.R_alloc | apply Kd.R_drewN | apply Kd.R_drew)); exact HO889.out) (Kd.R_base ho0) hb); have n3_ := Aside0.mk (Kd.R_lower (Kd.R_new' (Kd.R_new' (Kd.R_new' ho0 (Kd.R_lt (by (with_reducible repeat (first | apply Kd.R_alloc | apply Kd.R_drewN | apply Kd.R_drew)); exact HO_11.out))) (Kd.R_lt (by (with_reducible repeat (first | apply Kd.R_alloc | apply Kd.R_drewN | apply Kd.R_drew)); exact HO_878002.out))) (Kd.R_lt (by (with_reducible repeat (first | apply Kd.R_alloc | apply Kd.R_drewN | apply Kd.R_drew)); exact HO889.out))) (below_size (by repeat (first | (with_reducible first | exact HB.out | apply below_alloc | apply pw_below_drewN | apply below_drew1 | refine below_set ?_ GE857.out | refine below_set ?_ GE858.out | refine below_set ?_ GE877.out) | exact HB.out)))); have n4_ := Aside0.mk (blk_below (g := gb857) (o := .cells #[.int .i64 a0_0, .int .i64 a0_1, .slice A0_2 l0_2.length c0_2] 24 (0, 0)) (by (with_reducible repeat (first | refine blk_drewN ?_ _ | refine blk_drew ?_ | refine blk_alloc ?_ _)); exact BK857.out) hb); have n5_ := Aside0.mk (blk_below (g := gb858) (o := .cells #[.int .i64 a1_0, .int .i64 a1_1] 26 (0, 0)) (by (with_reducible repeat (first | refine blk_drewN ?_ _ | refine blk_drew ?_ | refine blk_alloc ?_ _)); exact BK858.out) hb); have n6_ := Aside0.mk (blk_below (g := gb877) (o := .cells #[.int .i64 t872, .int .i64 t873, .slice Ao41 t874.length co41] 30 (0, 0)) (by (with_reducible repeat (first | refine blk_drewN ?_ _ | refine blk_drew ?_ | refine blk_alloc ?_ _)); exact BK877.out) hb); have n7_ := Aside0.mk (below_step (by repeat (first | (with_reducible first | exact HB.out | apply below_alloc | apply pw_below_drewN | apply below_drew1 | refine below_set ?_ GE857.out | refine below_set ?_ GE858.out | refine below_set ?_ GE877.out) | exact HB.out)) hb); clear HO_11; clear HO_878002; clear HO889; clear BK857; clear BK858; clear BK877; clear HB; have HO_11 := n0_; have HO_878002 := n1_; have HO889 := n2_; have HO893 := n3_; have BK857 := n4_; have BK858 := n5_; have BK877 := n6_; have HB := n7_; clear n0_ n1_ n2_ n3_ n4_ n5_ n6_ n7_; (try clear hb); (try clear hb2); (try clear hk); (try clear hi); (try clear ho0); (try clear hna_); (try clear hnb_); obtain ⟨Ao60, co60, eo60⟩ := Kd.R_slice HO893.out; subst eo60) | ((with_reducible refine gate_callee (f := 20) rfl ?_); refine goesL_ (some 60) rfl rfl Try.func20 (by kernel_rfl) rfl #[.slice Ao45 t878.length co45, .slice Ao60 t891.length co60] rfl (by (try simp only [List.map_toArray, List.map_cons, List.map_nil]); first | done | rfl | (simp only [List.length_drop, List.length_take]; rfl)) ?_; (with_reducible refine (laws_eqIntS.calls kj21 _ _ t878 _ _ t891 true _ ?side1 ?side2 ?side3 ?side4 A53.out).mono ?_); (case side1 => repeat (first | exact (Kd.R_reads' HO_11.out).2.2 | (with_reducible refine Kd.C_alloc ?_ _) | (with_reducible refine Kd.C_drewN ?_ _) | (with_reducible refine Kd.C_drew ?_))); (case side2 => exact (Kd.R_reads' HO_11.out).2.1); (case side3 => repeat (first | exact (Kd.R_reads' HO893.out).2.2 | (with_reducible refine Kd.C_alloc ?_ _) | (with_reducible refine Kd.C_drewN ?_ _) | (with_reducible refine Kd.C_drew ?_))); (case side4 => exact (Kd.R_reads' HO893.out).2.1); rintro e w' ⟨rfl, ⟨nd, rfl⟩⟩; refine ⟨_, rfl, ?_⟩))
        go_ret
        exact ⟨by first | rfl | (simp [errW_none, errW_some] <;> rfl) | (simp [*, errW_none, errW_some] <;> rfl), by repeat (first | (with_reducible first | exact HB.out | apply below_alloc | apply pw_below_drewN | apply below_drew1 | refine below_set ?_ GE857.out | refine below_set ?_ GE858.out | refine below_set ?_ GE877.out) | exact HB.out)⟩
       ·replace c54 := Bool.eq_false_iff.mpr c54
        subst c54
        have H1 : (some false) = some r := by rw [if_neg (show ¬ (false = true) by decide)] at H; exact H
        clear H
        have H := H1
        clear H1
        obtain rfl := Option.some.inj H
        try go_wp2
        have n0_ := Aside0.mk (Kd.R_drew HO_11.out)
        have n1_ := Aside0.mk (Kd.R_drew HO_878002.out)
        have n2_ := Aside0.mk (blk_drew BK857.out)
        have n3_ := Aside0.mk (blk_drew BK858.out)
        have n4_ := Aside0.mk (blk_drew BK877.out)
        have n5_ := Aside0.mk (below_drew1 HB.out)
        clear HO_11
        clear HO_878002
        clear BK857
        clear BK858
        clear BK877
        clear HB
        have HO_11 := n0_
        have HO_878002 := n1_
        have BK857 := n2_
        have BK858 := n3_
        have BK877 := n4_
        have HB := n5_
        clear n0_ n1_ n2_ n3_ n4_ n5_
        refine start_ (n := 5) (S := fun w' => w'.cell? ⟨gb877, 0, none⟩ = some (.int .i64 t872) ∧ w'.cell? ⟨gb877, 1, none⟩ = some (.int .i64 t873) ∧ w'.cell? ⟨gb877, 2, none⟩ = some (.slice Ao41 t874.length co41) ∧ w'.cell? ⟨gb857, 0, none⟩ = some (.int .i64 a0_0) ∧ w'.cell? ⟨gb857, 1, none⟩ = some (.int .i64 a0_1) ∧ w'.cell? ⟨gb857, 2, none⟩ = some (.slice A0_2 l0_2.length c0_2)) (ds := []) #[false, false, false, false, false] (by kernel_rfl) rfl rfl ⟨(blk_cell BK877.out 0).trans rfl, (blk_cell BK877.out 1).trans rfl, (blk_cell BK877.out 2).trans rfl, (blk_cell BK857.out 0).trans rfl, (blk_cell BK857.out 1).trans rfl, (blk_cell BK857.out 2).trans rfl⟩ (fun hHeld => ?_)
        generalize wc.drew = w61 at HO_11 HO_878002 BK857 BK858 BK877 HB hHeld ⊢
        refine take_ (i := 0) (N := some 52) (v := ?_) (a' := ?_) #[true, false, false, false, false] rfl rfl (by kernel_rfl) (fun _ _ _ h => h) (Or.inl ⟨by rfl, ?_⟩) hHeld ?_ ?_
        rotate_left
        ·rintro w' ⟨s0, s1, s2, s3, s4, s5⟩
         go_simp
         with_reducible rfl
        rotate_left
        ·simp only [Act.put, List.setIfInBounds_toArray, List.set_cons_zero, List.set_cons_succ, i64_w, i32_w]
         rfl
        refine take_ (i := 1) (N := some 53) (v := ?_) (a' := ?_) #[true, true, false, false, false] rfl rfl (by kernel_rfl) (fun _ _ _ h => h) (Or.inl ⟨by rfl, ?_⟩) hHeld ?_ ?_
        rotate_left
        ·rintro w' ⟨s0, s1, s2, s3, s4, s5⟩
         go_simp
         with_reducible rfl
        rotate_left
        ·simp only [Act.put, List.setIfInBounds_toArray, List.set_cons_zero, List.set_cons_succ, i64_w, i32_w]
         rfl
        refine one_ (i := 2) (N := some 54) #[true, true, true, false, false] rfl rfl (by kernel_rfl) (by decide) (fun K hK => ?_)
        refine goes_ Try.func17 (by kernel_rfl) rfl #[.agg #[.int .i64 a0_0, .int .i64 a0_1, .slice A0_2 l0_2.length c0_2]] (by rfl) rfl rfl (by (try simp only [List.map_toArray, List.map_cons, List.map_nil]); first | done | rfl | (simp only [List.length_drop, List.length_take]; rfl)) ?_
        with_reducible refine (laws_toBoard.calls kj21 a0_0 a0_1 _ _ l0_2 t885 t886 t887 _ ?side1 ?side2 A49.out).mono ?_
        (case side1 => repeat (first | exact (Kd.C_below HR0_2.out HB.out) | (with_reducible refine Kd.C_alloc ?_ _) | (with_reducible refine Kd.C_drewN ?_ _) | (with_reducible refine Kd.C_drew ?_)))
        (case side2 => exact HC0_2.out)
        rintro e w62 ⟨v888, rfl, ho0, hb⟩
        refine ⟨_, rfl, ?_⟩
        have n0_ := Aside0.mk (Kd.R_elder' (by (with_reducible repeat (first | apply Kd.R_alloc | apply Kd.R_drewN | apply Kd.R_drew)); exact HO_11.out) (Kd.R_base ho0) hb)
        have n1_ := Aside0.mk (Kd.R_elder' (by (with_reducible repeat (first | apply Kd.R_alloc | apply Kd.R_drewN | apply Kd.R_drew)); exact HO_878002.out) (Kd.R_base ho0) hb)
        have n2_ := Aside0.mk (Kd.R_lower (Kd.R_new' (Kd.R_new' ho0 (Kd.R_lt (by (with_reducible repeat (first | apply Kd.R_alloc | apply Kd.R_drewN | apply Kd.R_drew)); exact HO_11.out))) (Kd.R_lt (by (with_reducible repeat (first | apply Kd.R_alloc | apply Kd.R_drewN | apply Kd.R_drew)); exact HO_878002.out))) (below_size (by repeat (first | (with_reducible first | exact HB.out | apply below_alloc | apply pw_below_drewN | apply below_drew1 | refine below_set ?_ GE857.out | refine below_set ?_ GE858.out | refine below_set ?_ GE877.out) | exact HB.out))))
        have n3_ := Aside0.mk (blk_below (g := gb857) (o := .cells #[.int .i64 a0_0, .int .i64 a0_1, .slice A0_2 l0_2.length c0_2] 24 (0, 0)) (by (with_reducible repeat (first | refine blk_drewN ?_ _ | refine blk_drew ?_ | refine blk_alloc ?_ _)); exact BK857.out) hb)
        have n4_ := Aside0.mk (blk_below (g := gb858) (o := .cells #[.int .i64 a1_0, .int .i64 a1_1] 26 (0, 0)) (by (with_reducible repeat (first | refine blk_drewN ?_ _ | refine blk_drew ?_ | refine blk_alloc ?_ _)); exact BK858.out) hb)
        have n5_ := Aside0.mk (blk_below (g := gb877) (o := .cells #[.int .i64 t872, .int .i64 t873, .slice Ao41 t874.length co41] 30 (0, 0)) (by (with_reducible repeat (first | refine blk_drewN ?_ _ | refine blk_drew ?_ | refine blk_alloc ?_ _)); exact BK877.out) hb)
        have n6_ := Aside0.mk (below_step (by repeat (first | (with_reducible first | exact HB.out | apply below_alloc | apply pw_below_drewN | apply below_drew1 | refine below_set ?_ GE857.out | refine below_set ?_ GE858.out | refine below_set ?_ GE877.out) | exact HB.out)) hb)
        clear HO_11
        clear HO_878002
        clear BK857
        clear BK858
        clear BK877
        clear HB
        have HO_11 := n0_
        have HO_878002 := n1_
        have HO889 := n2_
        have BK857 := n3_
        have BK858 := n4_
        have BK877 := n5_
        have HB := n6_
        clear n0_ n1_ n2_ n3_ n4_ n5_ n6_
        (try clear hb)
        (try clear hb2)
        (try clear hk)
        (try clear hi)
        (try clear ho0)
        (try clear hna_)
        (try clear hnb_)
        obtain ⟨Ao63, co63, eo63⟩ := Kd.R_slice HO889.out
        (first | subst eo63 | (injection eo63 with f1_ f2_ f3_; have f4_ := f1_.symm; have f5_ := f3_.symm; clear f1_ f2_ f3_; subst f4_; subst f5_))
        refine hK.out _ _ ⟨(blk_cell BK877.out 0).trans rfl, (blk_cell BK877.out 1).trans rfl, (blk_cell BK877.out 2).trans rfl, (blk_cell BK857.out 0).trans rfl, (blk_cell BK857.out 1).trans rfl, (blk_cell BK857.out 2).trans rfl⟩ (fun hHeld => ?_)
        clear hK K
        refine norm_ (a' := ?_) ?_ ?_
        rotate_left
        ·show Act.put _ (some 54) _ = _
         simp only [Act.put, List.setIfInBounds_toArray, List.set_cons_zero, List.set_cons_succ, i64_w, i32_w]
         rfl
        refine one_ (i := 3) (N := some 55) #[true, true, true, true, false] rfl rfl (by kernel_rfl) (by decide) (fun K hK => ?_)
        refine goes_ Try.func21 (by kernel_rfl) rfl #[.agg #[.int .i64 t872, .int .i64 t873, .slice Ao41 t874.length co41], .agg #[.int .i64 t885, .int .i64 t886, .slice Ao63 t887.length co63]] (by rfl) rfl rfl (by (try simp only [List.map_toArray, List.map_cons, List.map_nil]); first | done | rfl | (simp only [List.length_drop, List.length_take]; rfl)) ?_
        with_reducible refine (laws_eqBoard.calls kj21 t872 t873 _ _ t874 t885 t886 _ _ t887 true _ ?side1 ?side2 ?side3 ?side4 A50.out).mono ?_
        (case side1 => repeat (first | exact (Kd.R_reads' HO_878002.out).2.2 | (with_reducible refine Kd.C_alloc ?_ _) | (with_reducible refine Kd.C_drewN ?_ _) | (with_reducible refine Kd.C_drew ?_)))
        (case side2 => exact (Kd.R_reads' HO_878002.out).2.1)
        (case side3 => repeat (first | exact (Kd.R_reads' HO889.out).2.2 | (with_reducible refine Kd.C_alloc ?_ _) | (with_reducible refine Kd.C_drewN ?_ _) | (with_reducible refine Kd.C_drew ?_)))
        (case side4 => exact (Kd.R_reads' HO889.out).2.1)
        rintro e w64 ⟨rfl, hb⟩
        refine ⟨_, rfl, ?_⟩
        have n0_ := Aside0.mk (Kd.R_below (by (with_reducible repeat (first | apply Kd.R_alloc | apply Kd.R_drewN | apply Kd.R_drew)); exact HO_11.out) hb)
        have n1_ := Aside0.mk (Kd.R_below (by (with_reducible repeat (first | apply Kd.R_alloc | apply Kd.R_drewN | apply Kd.R_drew)); exact HO_878002.out) hb)
        have n2_ := Aside0.mk (Kd.R_below (by (with_reducible repeat (first | apply Kd.R_alloc | apply Kd.R_drewN | apply Kd.R_drew)); exact HO889.out) hb)
        have n3_ := Aside0.mk (blk_below (g := gb857) (o := .cells #[.int .i64 a0_0, .int .i64 a0_1, .slice A0_2 l0_2.length c0_2] 24 (0, 0)) (by (with_reducible repeat (first | refine blk_drewN ?_ _ | refine blk_drew ?_ | refine blk_alloc ?_ _)); exact BK857.out) hb)
        have n4_ := Aside0.mk (blk_below (g := gb858) (o := .cells #[.int .i64 a1_0, .int .i64 a1_1] 26 (0, 0)) (by (with_reducible repeat (first | refine blk_drewN ?_ _ | refine blk_drew ?_ | refine blk_alloc ?_ _)); exact BK858.out) hb)
        have n5_ := Aside0.mk (blk_below (g := gb877) (o := .cells #[.int .i64 t872, .int .i64 t873, .slice Ao41 t874.length co41] 30 (0, 0)) (by (with_reducible repeat (first | refine blk_drewN ?_ _ | refine blk_drew ?_ | refine blk_alloc ?_ _)); exact BK877.out) hb)
        have n6_ := Aside0.mk (below_step (by repeat (first | (with_reducible first | exact HB.out | apply below_alloc | apply pw_below_drewN | apply below_drew1 | refine below_set ?_ GE857.out | refine below_set ?_ GE858.out | refine below_set ?_ GE877.out) | exact HB.out)) hb)
        clear HO_11
        clear HO_878002
        clear HO889
        clear BK857
        clear BK858
        clear BK877
        clear HB
        have HO_11 := n0_
        have HO_878002 := n1_
        have HO889 := n2_
        have BK857 := n3_
        have BK858 := n4_
        have BK877 := n5_
        have HB := n6_
        clear n0_ n1_ n2_ n3_ n4_ n5_ n6_
        (try clear hb)
        (try clear hb2)
        (try clear hk)
        (try clear hi)
        (try clear hna_)
        (try clear hnb_)
        refine hK.out _ _ ⟨(blk_cell BK877.out 0).trans rfl, (blk_cell BK877.out 1).trans rfl, (blk_cell BK877.out 2).trans rfl, (blk_cell BK857.out 0).trans rfl, (blk_cell BK857.out 1).trans rfl, (blk_cell BK857.out 2).trans rfl⟩ (fun hHeld => ?_)
        clear hK K
        refine norm_ (a' := ?_) ?_ ?_
        rotate_left
        ·show Act.put _ (some 55) _ = _
         simp only [Act.put, List.setIfInBounds_toArray, List.set_cons_zero, List.set_cons_succ, i64_w, i32_w]
         rfl
        refine pure_ (i := 4) (N := some 56) (v := ?_) (a' := ?_) #[true, true, true, true, true] rfl rfl (by kernel_rfl) (fun _ _ _ h => h) (Or.inl ⟨by rfl, ?_⟩) ?_ ?_
        rotate_left
        ·intro w'
         go_simp
         with_reducible rfl
        rotate_left
        ·simp only [Act.put, List.setIfInBounds_toArray, List.set_cons_zero, List.set_cons_succ, i64_w, i32_w]
         rfl
        refine done_ (by kernel_rfl) ?_
        try go_wp2_with (first | ((with_reducible refine gate_callee (f := 26) rfl ?_); refine goesL_ (some 59) rfl rfl Try.func26 (by kernel_rfl) rfl #[.slice A2 l2.length c2] rfl (by (try simp only [List.map_toArray, List.map_cons, List.map_nil]); first | done | rfl | (simp only [List.length_drop, List.length_take]; rfl)) ?_; (with_reducible refine (laws_toIntS.calls kj21 _ _ l2 t891 _ ?side1 ?side2 A52.out).mono ?_); (case side1 => repeat (first | exact (Kd.C_below HR2.out HB.out) | (with_reducible refine Kd.C_alloc ?_ _) | (with_reducible refine Kd.C_drewN ?_ _) | (with_reducible refine Kd.C_drew ?_))); (case side2 => exact HC2.out); rintro e w65 ⟨v892, rfl, ho0, hb⟩; refine ⟨_, rfl, ?_⟩; have n0_ := Aside0.mk (Kd.R_elder' (by (with_reducible repeat (first | apply Kd.R_alloc | apply Kd.R_drewN | apply Kd.R_drew)); exact HO_11.out) (Kd.R_base ho0) hb); have n1_ := Aside0.mk (Kd.R_elder' (by (with_reducible repeat (first | apply Kd.R_alloc | apply Kd.R_drewN | apply Kd.R_drew)); exact HO_878002.out) (Kd.R_base ho0) hb); have n2_ := Aside0.mk (Kd.R_elder' (by (with_reducible repeat (first | apply Kd.R_alloc | apply Kd.R_drewN | apply Kd.R_drew)); exact HO889.out) (Kd.R_base ho0) hb); have n3_ := Aside0.mk (Kd.R_lower (Kd.R_new' (Kd.R_new' (Kd.R_new' ho0 (Kd.R_lt (by (with_reducible repeat (first | apply Kd.R_alloc | apply Kd.R_drewN | apply Kd.R_drew)); exact HO_11.out))) (Kd.R_lt (by (with_reducible repeat (first | apply Kd.R_alloc | apply Kd.R_drewN | apply Kd.R_drew)); exact HO_878002.out))) (Kd.R_lt (by (with_reducible repeat (first | apply Kd.R_alloc | apply Kd.R_drewN | apply Kd.R_drew)); exact HO889.out))) (below_size (by repeat (first | (with_reducible first | exact HB.out | apply below_alloc | apply pw_below_drewN | apply below_drew1 | refine below_set ?_ GE857.out | refine below_set ?_ GE858.out | refine below_set ?_ GE877.out) | exact HB.out)))); have n4_ := Aside0.mk (blk_below (g := gb857) (o := .cells #[.int .i64 a0_0, .int .i64 a0_1, .slice A0_2 l0_2.length c0_2] 24 (0, 0)) (by (with_reducible repeat (first | refine blk_drewN ?_ _ | refine blk_drew ?_ | refine blk_alloc ?_ _)); exact BK857.out) hb); have n5_ := Aside0.mk (blk_below (g := gb858) (o := .cells #[.int .i64 a1_0, .int .i64 a1_1] 26 (0, 0)) (by (with_reducible repeat (first | refine blk_drewN ?_ _ | refine blk_drew ?_ | refine blk_alloc ?_ _)); exact BK858.out) hb); have n6_ := Aside0.mk (blk_below (g := gb877) (o := .cells #[.int .i64 t872, .int .i64 t873, .slice Ao41 t874.length co41] 30 (0, 0)) (by (with_reducible repeat (first | refine blk_drewN ?_ _ | refine blk_drew ?_ | refine blk_alloc ?_ _)); exact BK877.out) hb); have n7_ := Aside0.mk (below_step (by repeat (first | (with_reducible first | exact HB.out | apply below_alloc | apply pw_below_drewN | apply below_drew1 | refine below_set ?_ GE857.out | refine below_set ?_ GE858.out | refine below_set ?_ GE877.out) | exact HB.out)) hb); clear HO_11; clear HO_878002; clear HO889; clear BK857; clear BK858; clear BK877; clear HB; have HO_11 := n0_; have HO_878002 := n1_; have HO889 := n2_; have HO893 := n3_; have BK857 := n4_; have BK858 := n5_; have BK877 := n6_; have HB := n7_; clear n0_ n1_ n2_ n3_ n4_ n5_ n6_ n7_; (try clear hb); (try clear hb2); (try clear hk); (try clear hi); (try clear ho0); (try clear hna_); (try clear hnb_); obtain ⟨Ao66, co66, eo66⟩ := Kd.R_slice HO893.out; subst eo66) | ((with_reducible refine gate_callee (f := 20) rfl ?_); refine goesL_ (some 60) rfl rfl Try.func20 (by kernel_rfl) rfl #[.slice Ao45 t878.length co45, .slice Ao66 t891.length co66] rfl (by (try simp only [List.map_toArray, List.map_cons, List.map_nil]); first | done | rfl | (simp only [List.length_drop, List.length_take]; rfl)) ?_; (with_reducible refine (laws_eqIntS.calls kj21 _ _ t878 _ _ t891 false _ ?side1 ?side2 ?side3 ?side4 A53.out).mono ?_); (case side1 => repeat (first | exact (Kd.R_reads' HO_11.out).2.2 | (with_reducible refine Kd.C_alloc ?_ _) | (with_reducible refine Kd.C_drewN ?_ _) | (with_reducible refine Kd.C_drew ?_))); (case side2 => exact (Kd.R_reads' HO_11.out).2.1); (case side3 => repeat (first | exact (Kd.R_reads' HO893.out).2.2 | (with_reducible refine Kd.C_alloc ?_ _) | (with_reducible refine Kd.C_drewN ?_ _) | (with_reducible refine Kd.C_drew ?_))); (case side4 => exact (Kd.R_reads' HO893.out).2.1); rintro e w' ⟨rfl, ⟨nd, rfl⟩⟩; refine ⟨_, rfl, ?_⟩))
        go_ret
        exact ⟨by first | rfl | (simp [errW_none, errW_some] <;> rfl) | (simp [*, errW_none, errW_some] <;> rfl), by repeat (first | (with_reducible first | exact HB.out | apply below_alloc | apply pw_below_drewN | apply below_drew1 | refine below_set ?_ GE857.out | refine below_set ?_ GE858.out | refine below_set ?_ GE877.out) | exact HB.out)⟩
      ·replace c51 := Bool.eq_false_iff.mpr c51
       subst c51
       have H1 : (some false) = some r := by rw [if_neg (show ¬ (false = true) by decide)] at H; exact H
       clear H
       have H := H1
       clear H1
       obtain rfl := Option.some.inj H
       try go_wp2
       have n0_ := Aside0.mk (Kd.R_drew HO_11.out)
       have n1_ := Aside0.mk (Kd.R_drew HO_878002.out)
       have n2_ := Aside0.mk (blk_drew BK857.out)
       have n3_ := Aside0.mk (blk_drew BK858.out)
       have n4_ := Aside0.mk (blk_drew BK877.out)
       have n5_ := Aside0.mk (below_drew1 HB.out)
       clear HO_11
       clear HO_878002
       clear BK857
       clear BK858
       clear BK877
       clear HB
       have HO_11 := n0_
       have HO_878002 := n1_
       have BK857 := n2_
       have BK858 := n3_
       have BK877 := n4_
       have HB := n5_
       clear n0_ n1_ n2_ n3_ n4_ n5_
       refine start_ (n := 5) (S := fun w' => w'.cell? ⟨gb877, 0, none⟩ = some (.int .i64 t872) ∧ w'.cell? ⟨gb877, 1, none⟩ = some (.int .i64 t873) ∧ w'.cell? ⟨gb877, 2, none⟩ = some (.slice Ao41 t874.length co41) ∧ w'.cell? ⟨gb857, 0, none⟩ = some (.int .i64 a0_0) ∧ w'.cell? ⟨gb857, 1, none⟩ = some (.int .i64 a0_1) ∧ w'.cell? ⟨gb857, 2, none⟩ = some (.slice A0_2 l0_2.length c0_2)) (ds := []) #[false, false, false, false, false] (by kernel_rfl) rfl rfl ⟨(blk_cell BK877.out 0).trans rfl, (blk_cell BK877.out 1).trans rfl, (blk_cell BK877.out 2).trans rfl, (blk_cell BK857.out 0).trans rfl, (blk_cell BK857.out 1).trans rfl, (blk_cell BK857.out 2).trans rfl⟩ (fun hHeld => ?_)
       generalize wc.drew = w67 at HO_11 HO_878002 BK857 BK858 BK877 HB hHeld ⊢
       refine take_ (i := 0) (N := some 52) (v := ?_) (a' := ?_) #[true, false, false, false, false] rfl rfl (by kernel_rfl) (fun _ _ _ h => h) (Or.inl ⟨by rfl, ?_⟩) hHeld ?_ ?_
       rotate_left
       ·rintro w' ⟨s0, s1, s2, s3, s4, s5⟩
        go_simp
        with_reducible rfl
       rotate_left
       ·simp only [Act.put, List.setIfInBounds_toArray, List.set_cons_zero, List.set_cons_succ, i64_w, i32_w]
        rfl
       refine take_ (i := 1) (N := some 53) (v := ?_) (a' := ?_) #[true, true, false, false, false] rfl rfl (by kernel_rfl) (fun _ _ _ h => h) (Or.inl ⟨by rfl, ?_⟩) hHeld ?_ ?_
       rotate_left
       ·rintro w' ⟨s0, s1, s2, s3, s4, s5⟩
        go_simp
        with_reducible rfl
       rotate_left
       ·simp only [Act.put, List.setIfInBounds_toArray, List.set_cons_zero, List.set_cons_succ, i64_w, i32_w]
        rfl
       refine one_ (i := 2) (N := some 54) #[true, true, true, false, false] rfl rfl (by kernel_rfl) (by decide) (fun K hK => ?_)
       refine goes_ Try.func17 (by kernel_rfl) rfl #[.agg #[.int .i64 a0_0, .int .i64 a0_1, .slice A0_2 l0_2.length c0_2]] (by rfl) rfl rfl (by (try simp only [List.map_toArray, List.map_cons, List.map_nil]); first | done | rfl | (simp only [List.length_drop, List.length_take]; rfl)) ?_
       with_reducible refine (laws_toBoard.calls kj21 a0_0 a0_1 _ _ l0_2 t885 t886 t887 _ ?side1 ?side2 A49.out).mono ?_
       (case side1 => repeat (first | exact (Kd.C_below HR0_2.out HB.out) | (with_reducible refine Kd.C_alloc ?_ _) | (with_reducible refine Kd.C_drewN ?_ _) | (with_reducible refine Kd.C_drew ?_)))
       (case side2 => exact HC0_2.out)
       rintro e w68 ⟨v888, rfl, ho0, hb⟩
       refine ⟨_, rfl, ?_⟩
       have n0_ := Aside0.mk (Kd.R_elder' (by (with_reducible repeat (first | apply Kd.R_alloc | apply Kd.R_drewN | apply Kd.R_drew)); exact HO_11.out) (Kd.R_base ho0) hb)
       have n1_ := Aside0.mk (Kd.R_elder' (by (with_reducible repeat (first | apply Kd.R_alloc | apply Kd.R_drewN | apply Kd.R_drew)); exact HO_878002.out) (Kd.R_base ho0) hb)
       have n2_ := Aside0.mk (Kd.R_lower (Kd.R_new' (Kd.R_new' ho0 (Kd.R_lt (by (with_reducible repeat (first | apply Kd.R_alloc | apply Kd.R_drewN | apply Kd.R_drew)); exact HO_11.out))) (Kd.R_lt (by (with_reducible repeat (first | apply Kd.R_alloc | apply Kd.R_drewN | apply Kd.R_drew)); exact HO_878002.out))) (below_size (by repeat (first | (with_reducible first | exact HB.out | apply below_alloc | apply pw_below_drewN | apply below_drew1 | refine below_set ?_ GE857.out | refine below_set ?_ GE858.out | refine below_set ?_ GE877.out) | exact HB.out))))
       have n3_ := Aside0.mk (blk_below (g := gb857) (o := .cells #[.int .i64 a0_0, .int .i64 a0_1, .slice A0_2 l0_2.length c0_2] 24 (0, 0)) (by (with_reducible repeat (first | refine blk_drewN ?_ _ | refine blk_drew ?_ | refine blk_alloc ?_ _)); exact BK857.out) hb)
       have n4_ := Aside0.mk (blk_below (g := gb858) (o := .cells #[.int .i64 a1_0, .int .i64 a1_1] 26 (0, 0)) (by (with_reducible repeat (first | refine blk_drewN ?_ _ | refine blk_drew ?_ | refine blk_alloc ?_ _)); exact BK858.out) hb)
       have n5_ := Aside0.mk (blk_below (g := gb877) (o := .cells #[.int .i64 t872, .int .i64 t873, .slice Ao41 t874.length co41] 30 (0, 0)) (by (with_reducible repeat (first | refine blk_drewN ?_ _ | refine blk_drew ?_ | refine blk_alloc ?_ _)); exact BK877.out) hb)
       have n6_ := Aside0.mk (below_step (by repeat (first | (with_reducible first | exact HB.out | apply below_alloc | apply pw_below_drewN | apply below_drew1 | refine below_set ?_ GE857.out | refine below_set ?_ GE858.out | refine below_set ?_ GE877.out) | exact HB.out)) hb)
       clear HO_11
       clear HO_878002
       clear BK857
       clear BK858
       clear BK877
       clear HB
       have HO_11 := n0_
       have HO_878002 := n1_
       have HO889 := n2_
       have BK857 := n3_
       have BK858 := n4_
       have BK877 := n5_
       have HB := n6_
       clear n0_ n1_ n2_ n3_ n4_ n5_ n6_
       (try clear hb)
       (try clear hb2)
       (try clear hk)
       (try clear hi)
       (try clear ho0)
       (try clear hna_)
       (try clear hnb_)
       obtain ⟨Ao69, co69, eo69⟩ := Kd.R_slice HO889.out
       (first | subst eo69 | (injection eo69 with f1_ f2_ f3_; have f4_ := f1_.symm; have f5_ := f3_.symm; clear f1_ f2_ f3_; subst f4_; subst f5_))
       refine hK.out _ _ ⟨(blk_cell BK877.out 0).trans rfl, (blk_cell BK877.out 1).trans rfl, (blk_cell BK877.out 2).trans rfl, (blk_cell BK857.out 0).trans rfl, (blk_cell BK857.out 1).trans rfl, (blk_cell BK857.out 2).trans rfl⟩ (fun hHeld => ?_)
       clear hK K
       refine norm_ (a' := ?_) ?_ ?_
       rotate_left
       ·show Act.put _ (some 54) _ = _
        simp only [Act.put, List.setIfInBounds_toArray, List.set_cons_zero, List.set_cons_succ, i64_w, i32_w]
        rfl
       refine one_ (i := 3) (N := some 55) #[true, true, true, true, false] rfl rfl (by kernel_rfl) (by decide) (fun K hK => ?_)
       refine goes_ Try.func21 (by kernel_rfl) rfl #[.agg #[.int .i64 t872, .int .i64 t873, .slice Ao41 t874.length co41], .agg #[.int .i64 t885, .int .i64 t886, .slice Ao69 t887.length co69]] (by rfl) rfl rfl (by (try simp only [List.map_toArray, List.map_cons, List.map_nil]); first | done | rfl | (simp only [List.length_drop, List.length_take]; rfl)) ?_
       with_reducible refine (laws_eqBoard.calls kj21 t872 t873 _ _ t874 t885 t886 _ _ t887 false _ ?side1 ?side2 ?side3 ?side4 A50.out).mono ?_
       (case side1 => repeat (first | exact (Kd.R_reads' HO_878002.out).2.2 | (with_reducible refine Kd.C_alloc ?_ _) | (with_reducible refine Kd.C_drewN ?_ _) | (with_reducible refine Kd.C_drew ?_)))
       (case side2 => exact (Kd.R_reads' HO_878002.out).2.1)
       (case side3 => repeat (first | exact (Kd.R_reads' HO889.out).2.2 | (with_reducible refine Kd.C_alloc ?_ _) | (with_reducible refine Kd.C_drewN ?_ _) | (with_reducible refine Kd.C_drew ?_)))
       (case side4 => exact (Kd.R_reads' HO889.out).2.1)
       rintro e w70 ⟨rfl, hb⟩
       refine ⟨_, rfl, ?_⟩
       have n0_ := Aside0.mk (Kd.R_below (by (with_reducible repeat (first | apply Kd.R_alloc | apply Kd.R_drewN | apply Kd.R_drew)); exact HO_11.out) hb)
       have n1_ := Aside0.mk (Kd.R_below (by (with_reducible repeat (first | apply Kd.R_alloc | apply Kd.R_drewN | apply Kd.R_drew)); exact HO_878002.out) hb)
       have n2_ := Aside0.mk (Kd.R_below (by (with_reducible repeat (first | apply Kd.R_alloc | apply Kd.R_drewN | apply Kd.R_drew)); exact HO889.out) hb)
       have n3_ := Aside0.mk (blk_below (g := gb857) (o := .cells #[.int .i64 a0_0, .int .i64 a0_1, .slice A0_2 l0_2.length c0_2] 24 (0, 0)) (by (with_reducible repeat (first | refine blk_drewN ?_ _ | refine blk_drew ?_ | refine blk_alloc ?_ _)); exact BK857.out) hb)
       have n4_ := Aside0.mk (blk_below (g := gb858) (o := .cells #[.int .i64 a1_0, .int .i64 a1_1] 26 (0, 0)) (by (with_reducible repeat (first | refine blk_drewN ?_ _ | refine blk_drew ?_ | refine blk_alloc ?_ _)); exact BK858.out) hb)
       have n5_ := Aside0.mk (blk_below (g := gb877) (o := .cells #[.int .i64 t872, .int .i64 t873, .slice Ao41 t874.length co41] 30 (0, 0)) (by (with_reducible repeat (first | refine blk_drewN ?_ _ | refine blk_drew ?_ | refine blk_alloc ?_ _)); exact BK877.out) hb)
       have n6_ := Aside0.mk (below_step (by repeat (first | (with_reducible first | exact HB.out | apply below_alloc | apply pw_below_drewN | apply below_drew1 | refine below_set ?_ GE857.out | refine below_set ?_ GE858.out | refine below_set ?_ GE877.out) | exact HB.out)) hb)
       clear HO_11
       clear HO_878002
       clear HO889
       clear BK857
       clear BK858
       clear BK877
       clear HB
       have HO_11 := n0_
       have HO_878002 := n1_
       have HO889 := n2_
       have BK857 := n3_
       have BK858 := n4_
       have BK877 := n5_
       have HB := n6_
       clear n0_ n1_ n2_ n3_ n4_ n5_ n6_
       (try clear hb)
       (try clear hb2)
       (try clear hk)
       (try clear hi)
       (try clear hna_)
       (try clear hnb_)
       refine hK.out _ _ ⟨(blk_cell BK877.out 0).trans rfl, (blk_cell BK877.out 1).trans rfl, (blk_cell BK877.out 2).trans rfl, (blk_cell BK857.out 0).trans rfl, (blk_cell BK857.out 1).trans rfl, (blk_cell BK857.out 2).trans rfl⟩ (fun hHeld => ?_)
       clear hK K
       refine norm_ (a' := ?_) ?_ ?_
       rotate_left
       ·show Act.put _ (some 55) _ = _
        simp only [Act.put, List.setIfInBounds_toArray, List.set_cons_zero, List.set_cons_succ, i64_w, i32_w]
        rfl
       refine pure_ (i := 4) (N := some 56) (v := ?_) (a' := ?_) #[true, true, true, true, true] rfl rfl (by kernel_rfl) (fun _ _ _ h => h) (Or.inl ⟨by rfl, ?_⟩) ?_ ?_
       rotate_left
       ·intro w'
        go_simp
        with_reducible rfl
       rotate_left
       ·simp only [Act.put, List.setIfInBounds_toArray, List.set_cons_zero, List.set_cons_succ, i64_w, i32_w]
        rfl
       refine done_ (by kernel_rfl) ?_
       try go_wp2
       go_ret
       exact ⟨by first | rfl | (simp [errW_none, errW_some] <;> rfl) | (simp [*, errW_none, errW_some] <;> rfl), by repeat (first | (with_reducible first | exact HB.out | apply below_alloc | apply pw_below_drewN | apply below_drew1 | refine below_set ?_ GE857.out | refine below_set ?_ GE858.out | refine below_set ?_ GE877.out) | exact HB.out)⟩

end Go.Proofs.Ytekajjhjjnfdpaa.Q

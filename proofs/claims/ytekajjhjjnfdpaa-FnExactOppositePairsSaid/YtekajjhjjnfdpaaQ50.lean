/- Written by a program of this session: functions of the translation as plain Lean functions, each with a proof that the call does what the plain function says; the conditions stand in each theorem. -/
import Derived.Test.YtekajjhjjnfdpaaQ0
import Derived.Test.YtekajjhjjnfdpaaQ1
import Derived.Test.YtekajjhjjnfdpaaQ4
import Derived.Test.YtekajjhjjnfdpaaQ5
import Derived.Test.YtekajjhjjnfdpaaQ49
namespace Go.Proofs.Ytekajjhjjnfdpaa.Q
open Go.RowKit Go.Proofs.YtekajjhjjnfdpaaW.PrintWords Go.Proofs.YtekajjhjjnfdpaaW.PrintLast Go.Proofs.YtekajjhjjnfdpaaW.PrintMore
attribute [local go_sem] max2_int min2_int max_two min_two max_three min_three max_four min_four   -- for this text's walks alone
set_option linter.unusedVariables false
set_option linter.unusedSimpArgs false

/-! ### laws_FnExactOppositePairs: function 13 -/
def laws_FnExactOppositePairs.j0 : Nat → List Int → List Int → Bool → Int → Int → List Int → Int → Int → List Int → Option (Bool)
 | 0, _, _, _, _, _, _, _, _, _ => none
 | k + 1, x2, x11, x51, x1281000, x1281001, x1281002, x1301000, x1301001, x1301002 => if x51 = true then (some false) else ((laws_toBoard.f k x1281000 x1281001 x1281002).bind fun bt1308 => ((laws_eqBoard.f k x1301000 x1301001 x1301002 bt1308.1 bt1308.2.1 bt1308.2.2).bind fun t1313 => (if t1313 = true then ((laws_toIntS.f k x2).bind fun t1314 => ((laws_eqIntS.f k x11 t1314).bind fun t1317 => (if t1317 = true then (some true) else (some false)))) else (some false))))
def laws_FnExactOppositePairs.f (k : Nat) (a0_0 : Int) (a0_1 : Int) (l0_2 : List Int) (a1_0 : Int) (a1_1 : Int) (l2 : List Int) : Option (Bool) := if (l2.length : Int) > 1048576 then (some true) else ((laws_szBoard.f a0_0 a0_1 l0_2 1048576).bind fun t1282 => (if t1282 < 0 then (some true) else ((laws_toBoard.f k a0_0 a0_1 l0_2).bind fun bt1283 => ((laws_toLeaper.f a1_0 a1_1).bind fun bt1288 => ((laws_toIntS.f k l2).bind fun t1290 => ((spec_OppositePairs.f k bt1283.1 bt1283.2.1 bt1283.2.2 bt1288.1 bt1288.2 t1290).bind fun bt1293 => ((laws_toBoard.f k a0_0 a0_1 l0_2).bind fun bt1295 => ((laws_toIntS.f k l2).bind fun t1301 => ((laws_toLeaper.f a1_0 a1_1).bind fun bt1304 => ((impl_OppositePairs.f k bt1295.1 bt1295.2.1 bt1295.2.2 bt1304.1 bt1304.2 t1301).bind fun bt1306 => (if bt1306.1 = bt1293.1 then (laws_FnExactOppositePairs.j0 k l2 t1301 (bt1306.2 != bt1293.2) a0_0 a0_1 l0_2 bt1295.1 bt1295.2.1 bt1295.2.2) else (laws_FnExactOppositePairs.j0 k l2 t1301 true a0_0 a0_1 l0_2 bt1295.1 bt1295.2.1 bt1295.2.2))))))))))))
def laws_FnExactOppositePairs.T7 : Bool × List (List Nat × List Nat) := (true, [([], []), ([0], [0]), ([], []), ([2, 1], [2]), ([], []), ([4, 3], [4]), ([1, 3, 5, 5], [1, 3, 5]), ([6], [6]), ([7], [7]), ([7], [7]), ([8, 6, 0, 1, 2, 3, 4, 5, 6, 7, 8], [8]), ([9, 10, 0, 1, 2, 3, 4, 5, 6, 7, 8, 9, 10], [9])])
def laws_FnExactOppositePairs.B7 : List Nat := [0, 1, 0, 7, 0, 31, 63, 127, 255, 255, 511, 2047]
theorem laws_FnExactOppositePairs.tab7 : rtab .any (opsOf Try.f13 7) = laws_FnExactOppositePairs.T7 := by kernel_rfl
theorem laws_FnExactOppositePairs.bits7 : waitsOk laws_FnExactOppositePairs.T7.2 laws_FnExactOppositePairs.B7 = true := by kernel_rfl
def laws_FnExactOppositePairs.T10 : Bool × List (List Nat × List Nat) := (true, [([], []), ([], []), ([1], [1]), ([], []), ([0, 2, 3, 2], [0, 2, 3]), ([4], [4]), ([5], [5]), ([5], [5]), ([6, 4, 0, 1, 2, 3, 4, 5, 6], [6]), ([7, 8, 0, 1, 2, 3, 4, 5, 6, 7, 8], [7])])
def laws_FnExactOppositePairs.B10 : List Nat := [0, 0, 2, 0, 15, 31, 63, 63, 127, 511]
theorem laws_FnExactOppositePairs.tab10 : rtab .any (opsOf Try.f13 10) = laws_FnExactOppositePairs.T10 := by kernel_rfl
theorem laws_FnExactOppositePairs.bits10 : waitsOk laws_FnExactOppositePairs.T10.2 laws_FnExactOppositePairs.B10 = true := by kernel_rfl
set_option maxHeartbeats 8000000 in
set_option maxRecDepth 100000 in
theorem laws_FnExactOppositePairs.calls (k : Nat) (a0_0 : Int) (a0_1 : Int) (A0_2 : Option Addr) (c0_2 : Nat) (l0_2 : List Int) (a1_0 : Int) (a1_1 : Int) (A2 : Option Addr) (c2 : Nat) (l2 : List Int) (r : Bool) (w : World) (hr0_2 : Kd.C (Kd.int .i64) w A0_2 l0_2.length l0_2) (hc0_2 : l0_2.length ≤ c0_2) (hr2 : Kd.C (Kd.int .i64) w A2 l2.length l2) (hc2 : l2.length ≤ c2) (h : laws_FnExactOppositePairs.f k a0_0 a0_1 l0_2 a1_0 a1_1 l2 = some r) :
  Calls Try.prog 13 #[.agg #[.int .i64 a0_0, .int .i64 a0_1, .slice A0_2 l0_2.length c0_2], .agg #[.int .i64 a1_0, .int .i64 a1_1], .slice A2 l2.length c2] w fun e w' => e = .returned (.bool r) ∧ Below w.heap.size w w' := by
 have hu24 := Try.underlying24
 have hu26 := Try.underlying26
 have hu30 := Try.underlying30
 have HR0_2 := Aside0.mk hr0_2
 have HC0_2 := Aside0.mk hc0_2
 clear hr0_2 hc0_2
 have HR2 := Aside0.mk hr2
 have HC2 := Aside0.mk hc2
 clear hr2 hc2
 have HB := Aside0.mk (Below.refl w.heap.size w)
 have H : (if (l2.length : Int) > 1048576 then (some true) else ((laws_szBoard.f a0_0 a0_1 l0_2 1048576).bind fun t1282 => (if t1282 < 0 then (some true) else ((laws_toBoard.f k a0_0 a0_1 l0_2).bind fun bt1283 => ((laws_toLeaper.f a1_0 a1_1).bind fun bt1288 => ((laws_toIntS.f k l2).bind fun t1290 => ((spec_OppositePairs.f k bt1283.1 bt1283.2.1 bt1283.2.2 bt1288.1 bt1288.2 t1290).bind fun bt1293 => ((laws_toBoard.f k a0_0 a0_1 l0_2).bind fun bt1295 => ((laws_toIntS.f k l2).bind fun t1301 => ((laws_toLeaper.f a1_0 a1_1).bind fun bt1304 => ((impl_OppositePairs.f k bt1295.1 bt1295.2.1 bt1295.2.2 bt1304.1 bt1304.2 t1301).bind fun bt1306 => (if bt1306.1 = bt1293.1 then (laws_FnExactOppositePairs.j0 k l2 t1301 (bt1306.2 != bt1293.2) a0_0 a0_1 l0_2 bt1295.1 bt1295.2.1 bt1295.2.2) else (laws_FnExactOppositePairs.j0 k l2 t1301 true a0_0 a0_1 l0_2 bt1295.1 bt1295.2.1 bt1295.2.2))))))))))))) = some r := h
 clear h
 by_cases c4 : (l2.length : Int) > 1048576
 ·rw [if_pos c4] at H
  have c4b0 : decide (1048576 < (l2.length : Int)) = true := decide_eq_true c4
  have c4b1 : decide (1048576 < l2.length) = true := decide_eq_true (by omega)
  clear c4
  obtain rfl := Option.some.inj H
  go_enter Try.func13, Try.ntmps13
  go_wp2_with (first | ((with_reducible refine gate_dst (N := 3) rfl ?_); refine box_event ?hg (N := 3) ?hd (cs := #[.int .i64 a0_0, .int .i64 a0_1, .slice A0_2 l0_2.length c0_2]) (t := 24) ?hr ?_; (case hd => rfl); (case hg => rfl); (case hr => first | (go_simp; done) | (go_simp; rfl)); intro gb1280 hg w5 hbox hb; have n0_ := Aside0.mk (below_step (by repeat (first | (with_reducible first | exact HB.out | apply below_alloc | apply pw_below_drewN | apply below_drew1) | exact HB.out)) hb); have n1_ := Aside0.mk (hbox); have n2_ := Aside0.mk ((by rw [hg]; exact (below_size (by repeat (first | (with_reducible first | exact HB.out | apply below_alloc | apply pw_below_drewN | apply below_drew1) | exact HB.out))) : w.heap.size ≤ gb1280)); have n3_ := Aside0.mk ((by rw [hg]; exact (below_size (by repeat (first | (with_reducible first | exact HB.out | apply below_alloc | apply pw_below_drewN | apply below_drew1) | exact HB.out))) : w.heap.size ≤ gb1280)); clear HB; have HB := n0_; have BK1280 := n1_; have GW1280 := n2_; have GE1280 := n3_; clear n0_ n1_ n2_ n3_; clear hb hbox hg) | ((with_reducible refine gate_dst (N := 4) rfl ?_); refine box_event ?hg (N := 4) ?hd (cs := #[.int .i64 a1_0, .int .i64 a1_1]) (t := 26) ?hr ?_; (case hd => rfl); (case hg => rfl); (case hr => first | (go_simp; done) | (go_simp; rfl)); intro gb1281 hg w6 hbox hb; have n0_ := Aside0.mk (blk_below (g := gb1280) (o := .cells #[.int .i64 a0_0, .int .i64 a0_1, .slice A0_2 l0_2.length c0_2] 24 (0, 0)) (by (with_reducible repeat (first | refine blk_drewN ?_ _ | refine blk_drew ?_ | refine blk_alloc ?_ _)); exact BK1280.out) hb); have n1_ := Aside0.mk (below_step (by repeat (first | (with_reducible first | exact HB.out | apply below_alloc | apply pw_below_drewN | apply below_drew1 | refine below_set ?_ GE1280.out) | exact HB.out)) hb); have n2_ := Aside0.mk (hbox); have n3_ := Aside0.mk ((by rw [hg]; exact (below_size (by repeat (first | (with_reducible first | exact HB.out | apply below_alloc | apply pw_below_drewN | apply below_drew1 | refine below_set ?_ GE1280.out) | exact HB.out))) : w.heap.size ≤ gb1281)); have n4_ := Aside0.mk ((by rw [hg]; exact (below_size (by repeat (first | (with_reducible first | exact HB.out | apply below_alloc | apply pw_below_drewN | apply below_drew1 | refine below_set ?_ GE1280.out) | exact HB.out))) : w.heap.size ≤ gb1281)); have n5_ := Aside0.mk ((by rw [hg]; exact Nat.ne_of_lt (blk_lt (g := gb1280) (o := .cells #[.int .i64 a0_0, .int .i64 a0_1, .slice A0_2 l0_2.length c0_2] 24 (0, 0)) (by (with_reducible repeat (first | refine blk_drewN ?_ _ | refine blk_drew ?_ | refine blk_alloc ?_ _)); exact BK1280.out)) : gb1280 ≠ gb1281)); have n6_ := Aside0.mk ((by rw [hg]; exact Nat.ne_of_gt (blk_lt (g := gb1280) (o := .cells #[.int .i64 a0_0, .int .i64 a0_1, .slice A0_2 l0_2.length c0_2] 24 (0, 0)) (by (with_reducible repeat (first | refine blk_drewN ?_ _ | refine blk_drew ?_ | refine blk_alloc ?_ _)); exact BK1280.out)) : gb1281 ≠ gb1280)); clear BK1280; clear HB; have BK1280 := n0_; have HB := n1_; have BK1281 := n2_; have GW1281 := n3_; have GE1281 := n4_; have NB1280_1281 := n5_; have NB1281_1280 := n6_; clear n0_ n1_ n2_ n3_ n4_ n5_ n6_; clear hb hbox hg))
  go_ret
  exact ⟨by first | rfl | (simp [errW_none, errW_some] <;> rfl) | (simp [*, errW_none, errW_some] <;> rfl), by repeat (first | (with_reducible first | exact HB.out | apply below_alloc | apply pw_below_drewN | apply below_drew1 | refine below_set ?_ GE1280.out | refine below_set ?_ GE1281.out) | exact HB.out)⟩
 rw [if_neg c4] at H
 have c4b0 : decide (1048576 < (l2.length : Int)) = false := decide_eq_false c4
 have c4b1 : decide (1048576 < l2.length) = false := decide_eq_false (by omega)
 clear c4
 replace H := Option.bind_eq_some_iff.mp H
 obtain ⟨t1282, A70, H⟩ := H
 replace H : (if t1282 < 0 then (some true) else ((laws_toBoard.f k a0_0 a0_1 l0_2).bind fun bt1283 => ((laws_toLeaper.f a1_0 a1_1).bind fun bt1288 => ((laws_toIntS.f k l2).bind fun t1290 => ((spec_OppositePairs.f k bt1283.1 bt1283.2.1 bt1283.2.2 bt1288.1 bt1288.2 t1290).bind fun bt1293 => ((laws_toBoard.f k a0_0 a0_1 l0_2).bind fun bt1295 => ((laws_toIntS.f k l2).bind fun t1301 => ((laws_toLeaper.f a1_0 a1_1).bind fun bt1304 => ((impl_OppositePairs.f k bt1295.1 bt1295.2.1 bt1295.2.2 bt1304.1 bt1304.2 t1301).bind fun bt1306 => (if bt1306.1 = bt1293.1 then (laws_FnExactOppositePairs.j0 k l2 t1301 (bt1306.2 != bt1293.2) a0_0 a0_1 l0_2 bt1295.1 bt1295.2.1 bt1295.2.2) else (laws_FnExactOppositePairs.j0 k l2 t1301 true a0_0 a0_1 l0_2 bt1295.1 bt1295.2.1 bt1295.2.2))))))))))) = some r := H
 have A7 := Aside0.mk A70
 clear A70
 by_cases c8 : t1282 < 0
 ·rw [if_pos c8] at H
  have c8b0 : decide (t1282 < 0) = true := decide_eq_true c8
  clear c8
  obtain rfl := Option.some.inj H
  go_enter Try.func13, Try.ntmps13
  go_wp2_with (first | ((with_reducible refine gate_dst (N := 3) rfl ?_); refine box_event ?hg (N := 3) ?hd (cs := #[.int .i64 a0_0, .int .i64 a0_1, .slice A0_2 l0_2.length c0_2]) (t := 24) ?hr ?_; (case hd => rfl); (case hg => rfl); (case hr => first | (go_simp; done) | (go_simp; rfl)); intro gb1280 hg w9 hbox hb; have n0_ := Aside0.mk (below_step (by repeat (first | (with_reducible first | exact HB.out | apply below_alloc | apply pw_below_drewN | apply below_drew1) | exact HB.out)) hb); have n1_ := Aside0.mk (hbox); have n2_ := Aside0.mk ((by rw [hg]; exact (below_size (by repeat (first | (with_reducible first | exact HB.out | apply below_alloc | apply pw_below_drewN | apply below_drew1) | exact HB.out))) : w.heap.size ≤ gb1280)); have n3_ := Aside0.mk ((by rw [hg]; exact (below_size (by repeat (first | (with_reducible first | exact HB.out | apply below_alloc | apply pw_below_drewN | apply below_drew1) | exact HB.out))) : w.heap.size ≤ gb1280)); clear HB; have HB := n0_; have BK1280 := n1_; have GW1280 := n2_; have GE1280 := n3_; clear n0_ n1_ n2_ n3_; clear hb hbox hg) | ((with_reducible refine gate_dst (N := 4) rfl ?_); refine box_event ?hg (N := 4) ?hd (cs := #[.int .i64 a1_0, .int .i64 a1_1]) (t := 26) ?hr ?_; (case hd => rfl); (case hg => rfl); (case hr => first | (go_simp; done) | (go_simp; rfl)); intro gb1281 hg w10 hbox hb; have n0_ := Aside0.mk (blk_below (g := gb1280) (o := .cells #[.int .i64 a0_0, .int .i64 a0_1, .slice A0_2 l0_2.length c0_2] 24 (0, 0)) (by (with_reducible repeat (first | refine blk_drewN ?_ _ | refine blk_drew ?_ | refine blk_alloc ?_ _)); exact BK1280.out) hb); have n1_ := Aside0.mk (below_step (by repeat (first | (with_reducible first | exact HB.out | apply below_alloc | apply pw_below_drewN | apply below_drew1 | refine below_set ?_ GE1280.out) | exact HB.out)) hb); have n2_ := Aside0.mk (hbox); have n3_ := Aside0.mk ((by rw [hg]; exact (below_size (by repeat (first | (with_reducible first | exact HB.out | apply below_alloc | apply pw_below_drewN | apply below_drew1 | refine below_set ?_ GE1280.out) | exact HB.out))) : w.heap.size ≤ gb1281)); have n4_ := Aside0.mk ((by rw [hg]; exact (below_size (by repeat (first | (with_reducible first | exact HB.out | apply below_alloc | apply pw_below_drewN | apply below_drew1 | refine below_set ?_ GE1280.out) | exact HB.out))) : w.heap.size ≤ gb1281)); have n5_ := Aside0.mk ((by rw [hg]; exact Nat.ne_of_lt (blk_lt (g := gb1280) (o := .cells #[.int .i64 a0_0, .int .i64 a0_1, .slice A0_2 l0_2.length c0_2] 24 (0, 0)) (by (with_reducible repeat (first | refine blk_drewN ?_ _ | refine blk_drew ?_ | refine blk_alloc ?_ _)); exact BK1280.out)) : gb1280 ≠ gb1281)); have n6_ := Aside0.mk ((by rw [hg]; exact Nat.ne_of_gt (blk_lt (g := gb1280) (o := .cells #[.int .i64 a0_0, .int .i64 a0_1, .slice A0_2 l0_2.length c0_2] 24 (0, 0)) (by (with_reducible repeat (first | refine blk_drewN ?_ _ | refine blk_drew ?_ | refine blk_alloc ?_ _)); exact BK1280.out)) : gb1281 ≠ gb1280)); clear BK1280; clear HB; have BK1280 := n0_; have HB := n1_; have BK1281 := n2_; have GW1281 := n3_; have GE1281 := n4_; have NB1280_1281 := n5_; have NB1281_1280 := n6_; clear n0_ n1_ n2_ n3_ n4_ n5_ n6_; clear hb hbox hg; have hnb11 := NB1280_1281.out; have hnc11 := NB1281_1280.out; have hcz12_0 : w10.cell? ⟨gb1280, 0, none⟩ = some (.int .i64 a0_0) := (blk_cell BK1280.out 0).trans rfl; have hcz12_1 : w10.cell? ⟨gb1280, 1, none⟩ = some (.int .i64 a0_1) := (blk_cell BK1280.out 1).trans rfl; have hcz12_2 : w10.cell? ⟨gb1280, 2, none⟩ = some (.slice A0_2 l0_2.length c0_2) := (blk_cell BK1280.out 2).trans rfl; have hfz12_0 := blk_frozen BK1280.out 0; have hfz12_1 := blk_frozen BK1280.out 1; have hfz12_2 := blk_frozen BK1280.out 2) | ((with_reducible refine gate_callee (f := 15) rfl ?_); refine goesL_ (some 19) rfl rfl Try.func15 (by kernel_rfl) rfl #[.agg #[.int .i64 a0_0, .int .i64 a0_1, .slice A0_2 l0_2.length c0_2], .int .i64 1048576] rfl (by (try simp only [List.map_toArray, List.map_cons, List.map_nil]); first | done | rfl | (simp only [List.length_drop, List.length_take]; rfl)) ?_; (with_reducible refine (laws_szBoard.calls a0_0 a0_1 _ _ l0_2 1048576 t1282 _ ?side1 ?side2 A7.out).mono ?_); (case side1 => repeat (first | exact (Kd.C_below HR0_2.out HB.out) | (with_reducible refine Kd.C_alloc ?_ _) | (with_reducible refine Kd.C_drewN ?_ _) | (with_reducible refine Kd.C_drew ?_))); (case side2 => exact HC0_2.out); rintro e w13 ⟨rfl, hb⟩; refine ⟨_, rfl, ?_⟩; have n0_ := Aside0.mk (blk_below (g := gb1280) (o := .cells #[.int .i64 a0_0, .int .i64 a0_1, .slice A0_2 l0_2.length c0_2] 24 (0, 0)) (by (with_reducible repeat (first | refine blk_drewN ?_ _ | refine blk_drew ?_ | refine blk_alloc ?_ _)); exact BK1280.out) hb); have n1_ := Aside0.mk (blk_below (g := gb1281) (o := .cells #[.int .i64 a1_0, .int .i64 a1_1] 26 (0, 0)) (by (with_reducible repeat (first | refine blk_drewN ?_ _ | refine blk_drew ?_ | refine blk_alloc ?_ _)); exact BK1281.out) hb); have n2_ := Aside0.mk (below_step (by repeat (first | (with_reducible first | exact HB.out | apply below_alloc | apply pw_below_drewN | apply below_drew1 | refine below_set ?_ GE1280.out | refine below_set ?_ GE1281.out) | exact HB.out)) hb); clear BK1280; clear BK1281; clear HB; have BK1280 := n0_; have BK1281 := n1_; have HB := n2_; clear n0_ n1_ n2_; (try clear hb); (try clear hb2); (try clear hk); (try clear hi); (try clear hna_); (try clear hnb_)))
  go_ret
  exact ⟨by first | rfl | (simp [errW_none, errW_some] <;> rfl) | (simp [*, errW_none, errW_some] <;> rfl), by repeat (first | (with_reducible first | exact HB.out | apply below_alloc | apply pw_below_drewN | apply below_drew1 | refine below_set ?_ GE1280.out | refine below_set ?_ GE1281.out) | exact HB.out)⟩
 rw [if_neg c8] at H
 have c8b0 : decide (t1282 < 0) = false := decide_eq_false c8
 clear c8
 replace H := Option.bind_eq_some_iff.mp H
 obtain ⟨⟨t1283, t1284, t1285⟩, A140, H⟩ := H
 replace H : ((laws_toLeaper.f a1_0 a1_1).bind fun bt1288 => ((laws_toIntS.f k l2).bind fun t1290 => ((spec_OppositePairs.f k t1283 t1284 t1285 bt1288.1 bt1288.2 t1290).bind fun bt1293 => ((laws_toBoard.f k a0_0 a0_1 l0_2).bind fun bt1295 => ((laws_toIntS.f k l2).bind fun t1301 => ((laws_toLeaper.f a1_0 a1_1).bind fun bt1304 => ((impl_OppositePairs.f k bt1295.1 bt1295.2.1 bt1295.2.2 bt1304.1 bt1304.2 t1301).bind fun bt1306 => (if bt1306.1 = bt1293.1 then (laws_FnExactOppositePairs.j0 k l2 t1301 (bt1306.2 != bt1293.2) a0_0 a0_1 l0_2 bt1295.1 bt1295.2.1 bt1295.2.2) else (laws_FnExactOppositePairs.j0 k l2 t1301 true a0_0 a0_1 l0_2 bt1295.1 bt1295.2.1 bt1295.2.2))))))))) = some r := H
 have A14 := Aside0.mk A140
 clear A140
 replace H := Option.bind_eq_some_iff.mp H
 obtain ⟨⟨t1288, t1289⟩, A150, H⟩ := H
 replace H : ((laws_toIntS.f k l2).bind fun t1290 => ((spec_OppositePairs.f k t1283 t1284 t1285 t1288 t1289 t1290).bind fun bt1293 => ((laws_toBoard.f k a0_0 a0_1 l0_2).bind fun bt1295 => ((laws_toIntS.f k l2).bind fun t1301 => ((laws_toLeaper.f a1_0 a1_1).bind fun bt1304 => ((impl_OppositePairs.f k bt1295.1 bt1295.2.1 bt1295.2.2 bt1304.1 bt1304.2 t1301).bind fun bt1306 => (if bt1306.1 = bt1293.1 then (laws_FnExactOppositePairs.j0 k l2 t1301 (bt1306.2 != bt1293.2) a0_0 a0_1 l0_2 bt1295.1 bt1295.2.1 bt1295.2.2) else (laws_FnExactOppositePairs.j0 k l2 t1301 true a0_0 a0_1 l0_2 bt1295.1 bt1295.2.1 bt1295.2.2)))))))) = some r := H
 have A15 := Aside0.mk A150
 clear A150
 replace H := Option.bind_eq_some_iff.mp H
 obtain ⟨t1290, A160, H⟩ := H
 replace H : ((spec_OppositePairs.f k t1283 t1284 t1285 t1288 t1289 t1290).bind fun bt1293 => ((laws_toBoard.f k a0_0 a0_1 l0_2).bind fun bt1295 => ((laws_toIntS.f k l2).bind fun t1301 => ((laws_toLeaper.f a1_0 a1_1).bind fun bt1304 => ((impl_OppositePairs.f k bt1295.1 bt1295.2.1 bt1295.2.2 bt1304.1 bt1304.2 t1301).bind fun bt1306 => (if bt1306.1 = bt1293.1 then (laws_FnExactOppositePairs.j0 k l2 t1301 (bt1306.2 != bt1293.2) a0_0 a0_1 l0_2 bt1295.1 bt1295.2.1 bt1295.2.2) else (laws_FnExactOppositePairs.j0 k l2 t1301 true a0_0 a0_1 l0_2 bt1295.1 bt1295.2.1 bt1295.2.2))))))) = some r := H
 have A16 := Aside0.mk A160
 clear A160
 replace H := Option.bind_eq_some_iff.mp H
 obtain ⟨⟨t1293, t1294⟩, A170, H⟩ := H
 replace H : ((laws_toBoard.f k a0_0 a0_1 l0_2).bind fun bt1295 => ((laws_toIntS.f k l2).bind fun t1301 => ((laws_toLeaper.f a1_0 a1_1).bind fun bt1304 => ((impl_OppositePairs.f k bt1295.1 bt1295.2.1 bt1295.2.2 bt1304.1 bt1304.2 t1301).bind fun bt1306 => (if bt1306.1 = t1293 then (laws_FnExactOppositePairs.j0 k l2 t1301 (bt1306.2 != t1294) a0_0 a0_1 l0_2 bt1295.1 bt1295.2.1 bt1295.2.2) else (laws_FnExactOppositePairs.j0 k l2 t1301 true a0_0 a0_1 l0_2 bt1295.1 bt1295.2.1 bt1295.2.2)))))) = some r := H
 have A17 := Aside0.mk A170
 clear A170
 replace H := Option.bind_eq_some_iff.mp H
 obtain ⟨⟨t1295, t1296, t1297⟩, A180, H⟩ := H
 replace H : ((laws_toIntS.f k l2).bind fun t1301 => ((laws_toLeaper.f a1_0 a1_1).bind fun bt1304 => ((impl_OppositePairs.f k t1295 t1296 t1297 bt1304.1 bt1304.2 t1301).bind fun bt1306 => (if bt1306.1 = t1293 then (laws_FnExactOppositePairs.j0 k l2 t1301 (bt1306.2 != t1294) a0_0 a0_1 l0_2 t1295 t1296 t1297) else (laws_FnExactOppositePairs.j0 k l2 t1301 true a0_0 a0_1 l0_2 t1295 t1296 t1297))))) = some r := H
 have A18 := Aside0.mk A180
 clear A180
 replace H := Option.bind_eq_some_iff.mp H
 obtain ⟨t1301, A190, H⟩ := H
 replace H : ((laws_toLeaper.f a1_0 a1_1).bind fun bt1304 => ((impl_OppositePairs.f k t1295 t1296 t1297 bt1304.1 bt1304.2 t1301).bind fun bt1306 => (if bt1306.1 = t1293 then (laws_FnExactOppositePairs.j0 k l2 t1301 (bt1306.2 != t1294) a0_0 a0_1 l0_2 t1295 t1296 t1297) else (laws_FnExactOppositePairs.j0 k l2 t1301 true a0_0 a0_1 l0_2 t1295 t1296 t1297)))) = some r := H
 have A19 := Aside0.mk A190
 clear A190
 replace H := Option.bind_eq_some_iff.mp H
 obtain ⟨⟨t1304, t1305⟩, A200, H⟩ := H
 replace H : ((impl_OppositePairs.f k t1295 t1296 t1297 t1304 t1305 t1301).bind fun bt1306 => (if bt1306.1 = t1293 then (laws_FnExactOppositePairs.j0 k l2 t1301 (bt1306.2 != t1294) a0_0 a0_1 l0_2 t1295 t1296 t1297) else (laws_FnExactOppositePairs.j0 k l2 t1301 true a0_0 a0_1 l0_2 t1295 t1296 t1297))) = some r := H
 have A20 := Aside0.mk A200
 clear A200
 replace H := Option.bind_eq_some_iff.mp H
 obtain ⟨⟨t1306, t1307⟩, A210, H⟩ := H
 replace H : (if t1306 = t1293 then (laws_FnExactOppositePairs.j0 k l2 t1301 (t1307 != t1294) a0_0 a0_1 l0_2 t1295 t1296 t1297) else (laws_FnExactOppositePairs.j0 k l2 t1301 true a0_0 a0_1 l0_2 t1295 t1296 t1297)) = some r := H
 have A21 := Aside0.mk A210
 clear A210
 have HC22 := Aside0.mk H
 clear H
 go_enter Try.func13, Try.ntmps13
 try go_wp2_with (first | ((with_reducible refine gate_dst (N := 3) rfl ?_); refine box_event ?hg (N := 3) ?hd (cs := #[.int .i64 a0_0, .int .i64 a0_1, .slice A0_2 l0_2.length c0_2]) (t := 24) ?hr ?_; (case hd => rfl); (case hg => rfl); (case hr => first | (go_simp; done) | (go_simp; rfl)); intro gb1280 hg w23 hbox hb; have n0_ := Aside0.mk (below_step (by repeat (first | (with_reducible first | exact HB.out | apply below_alloc | apply pw_below_drewN | apply below_drew1) | exact HB.out)) hb); have n1_ := Aside0.mk (hbox); have n2_ := Aside0.mk ((by rw [hg]; exact (below_size (by repeat (first | (with_reducible first | exact HB.out | apply below_alloc | apply pw_below_drewN | apply below_drew1) | exact HB.out))) : w.heap.size ≤ gb1280)); have n3_ := Aside0.mk ((by rw [hg]; exact (below_size (by repeat (first | (with_reducible first | exact HB.out | apply below_alloc | apply pw_below_drewN | apply below_drew1) | exact HB.out))) : w.heap.size ≤ gb1280)); clear HB; have HB := n0_; have BK1280 := n1_; have GW1280 := n2_; have GE1280 := n3_; clear n0_ n1_ n2_ n3_; clear hb hbox hg) | ((with_reducible refine gate_dst (N := 4) rfl ?_); refine box_event ?hg (N := 4) ?hd (cs := #[.int .i64 a1_0, .int .i64 a1_1]) (t := 26) ?hr ?_; (case hd => rfl); (case hg => rfl); (case hr => first | (go_simp; done) | (go_simp; rfl)); intro gb1281 hg w24 hbox hb; have n0_ := Aside0.mk (blk_below (g := gb1280) (o := .cells #[.int .i64 a0_0, .int .i64 a0_1, .slice A0_2 l0_2.length c0_2] 24 (0, 0)) (by (with_reducible repeat (first | refine blk_drewN ?_ _ | refine blk_drew ?_ | refine blk_alloc ?_ _)); exact BK1280.out) hb); have n1_ := Aside0.mk (below_step (by repeat (first | (with_reducible first | exact HB.out | apply below_alloc | apply pw_below_drewN | apply below_drew1 | refine below_set ?_ GE1280.out) | exact HB.out)) hb); have n2_ := Aside0.mk (hbox); have n3_ := Aside0.mk ((by rw [hg]; exact (below_size (by repeat (first | (with_reducible first | exact HB.out | apply below_alloc | apply pw_below_drewN | apply below_drew1 | refine below_set ?_ GE1280.out) | exact HB.out))) : w.heap.size ≤ gb1281)); have n4_ := Aside0.mk ((by rw [hg]; exact (below_size (by repeat (first | (with_reducible first | exact HB.out | apply below_alloc | apply pw_below_drewN | apply below_drew1 | refine below_set ?_ GE1280.out) | exact HB.out))) : w.heap.size ≤ gb1281)); have n5_ := Aside0.mk ((by rw [hg]; exact Nat.ne_of_lt (blk_lt (g := gb1280) (o := .cells #[.int .i64 a0_0, .int .i64 a0_1, .slice A0_2 l0_2.length c0_2] 24 (0, 0)) (by (with_reducible repeat (first | refine blk_drewN ?_ _ | refine blk_drew ?_ | refine blk_alloc ?_ _)); exact BK1280.out)) : gb1280 ≠ gb1281)); have n6_ := Aside0.mk ((by rw [hg]; exact Nat.ne_of_gt (blk_lt (g := gb1280) (o := .cells #[.int .i64 a0_0, .int .i64 a0_1, .slice A0_2 l0_2.length c0_2] 24 (0, 0)) (by (with_reducible repeat (first | refine blk_drewN ?_ _ | refine blk_drew ?_ | refine blk_alloc ?_ _)); exact BK1280.out)) : gb1281 ≠ gb1280)); clear BK1280; clear HB; have BK1280 := n0_; have HB := n1_; have BK1281 := n2_; have GW1281 := n3_; have GE1281 := n4_; have NB1280_1281 := n5_; have NB1281_1280 := n6_; clear n0_ n1_ n2_ n3_ n4_ n5_ n6_; clear hb hbox hg; have hnb25 := NB1280_1281.out; have hnc25 := NB1281_1280.out; have hcz26_0 : w24.cell? ⟨gb1280, 0, none⟩ = some (.int .i64 a0_0) := (blk_cell BK1280.out 0).trans rfl; have hcz26_1 : w24.cell? ⟨gb1280, 1, none⟩ = some (.int .i64 a0_1) := (blk_cell BK1280.out 1).trans rfl; have hcz26_2 : w24.cell? ⟨gb1280, 2, none⟩ = some (.slice A0_2 l0_2.length c0_2) := (blk_cell BK1280.out 2).trans rfl; have hfz26_0 := blk_frozen BK1280.out 0; have hfz26_1 := blk_frozen BK1280.out 1; have hfz26_2 := blk_frozen BK1280.out 2) | ((with_reducible refine gate_callee (f := 15) rfl ?_); refine goesL_ (some 19) rfl rfl Try.func15 (by kernel_rfl) rfl #[.agg #[.int .i64 a0_0, .int .i64 a0_1, .slice A0_2 l0_2.length c0_2], .int .i64 1048576] rfl (by (try simp only [List.map_toArray, List.map_cons, List.map_nil]); first | done | rfl | (simp only [List.length_drop, List.length_take]; rfl)) ?_; (with_reducible refine (laws_szBoard.calls a0_0 a0_1 _ _ l0_2 1048576 t1282 _ ?side1 ?side2 A7.out).mono ?_); (case side1 => repeat (first | exact (Kd.C_below HR0_2.out HB.out) | (with_reducible refine Kd.C_alloc ?_ _) | (with_reducible refine Kd.C_drewN ?_ _) | (with_reducible refine Kd.C_drew ?_))); (case side2 => exact HC0_2.out); rintro e w27 ⟨rfl, hb⟩; refine ⟨_, rfl, ?_⟩; have n0_ := Aside0.mk (blk_below (g := gb1280) (o := .cells #[.int .i64 a0_0, .int .i64 a0_1, .slice A0_2 l0_2.length c0_2] 24 (0, 0)) (by (with_reducible repeat (first | refine blk_drewN ?_ _ | refine blk_drew ?_ | refine blk_alloc ?_ _)); exact BK1280.out) hb); have n1_ := Aside0.mk (blk_below (g := gb1281) (o := .cells #[.int .i64 a1_0, .int .i64 a1_1] 26 (0, 0)) (by (with_reducible repeat (first | refine blk_drewN ?_ _ | refine blk_drew ?_ | refine blk_alloc ?_ _)); exact BK1281.out) hb); have n2_ := Aside0.mk (below_step (by repeat (first | (with_reducible first | exact HB.out | apply below_alloc | apply pw_below_drewN | apply below_drew1 | refine below_set ?_ GE1280.out | refine below_set ?_ GE1281.out) | exact HB.out)) hb); clear BK1280; clear BK1281; clear HB; have BK1280 := n0_; have BK1281 := n1_; have HB := n2_; clear n0_ n1_ n2_; (try clear hb); (try clear hb2); (try clear hk); (try clear hi); (try clear hna_); (try clear hnb_)))
 have n0_ := Aside0.mk (blk_drew BK1280.out)
 have n1_ := Aside0.mk (blk_drew BK1281.out)
 have n2_ := Aside0.mk (below_drew1 HB.out)
 clear BK1280
 clear BK1281
 clear HB
 have BK1280 := n0_
 have BK1281 := n1_
 have HB := n2_
 clear n0_ n1_ n2_
 refine start_ (n := 12) (S := fun w' => w'.cell? ⟨gb1280, 0, none⟩ = some (.int .i64 a0_0) ∧ w'.cell? ⟨gb1280, 1, none⟩ = some (.int .i64 a0_1) ∧ w'.cell? ⟨gb1280, 2, none⟩ = some (.slice A0_2 l0_2.length c0_2) ∧ w'.cell? ⟨gb1281, 0, none⟩ = some (.int .i64 a1_0) ∧ w'.cell? ⟨gb1281, 1, none⟩ = some (.int .i64 a1_1)) (ds := []) #[false, false, false, false, false, false, false, false, false, false, false, false] (by kernel_rfl) rfl rfl ⟨(blk_cell BK1280.out 0).trans rfl, (blk_cell BK1280.out 1).trans rfl, (blk_cell BK1280.out 2).trans rfl, (blk_cell BK1281.out 0).trans rfl, (blk_cell BK1281.out 1).trans rfl⟩ (fun hHeld => ?_); refine with_tabW laws_FnExactOppositePairs.tab7 laws_FnExactOppositePairs.bits7 (fun HT_ HW_ => ?_)
 generalize w27.drew = w28 at BK1280 BK1281 HB hHeld ⊢
 refine pure_ (i := 4) (N := some 27) (v := ?_) (a' := ?_) #[false, false, false, false, true, false, false, false, false, false, false, false] rfl rfl (any_of HT_.out (by kernel_rfl)) (fun _ _ _ h => h) (Or.inl ⟨by rfl, ?_⟩) ?_ ?_
 rotate_left
 ·intro w'
  go_simp
  with_reducible rfl
 rotate_left
 ·simp only [Act.put, List.setIfInBounds_toArray, List.set_cons_zero, List.set_cons_succ, i64_w, i32_w]
  rfl
 refine take_ (i := 0) (N := some 23) (v := ?_) (a' := ?_) #[true, false, false, false, true, false, false, false, false, false, false, false] rfl rfl (take_ofW HT_.out HW_.out (by kernel_rfl)) (fun _ _ _ h => h) (Or.inl ⟨by rfl, ?_⟩) hHeld ?_ ?_
 rotate_left
 ·rintro w' ⟨s0, s1, s2, s3, s4⟩
  go_simp
  with_reducible rfl
 rotate_left
 ·simp only [Act.put, List.setIfInBounds_toArray, List.set_cons_zero, List.set_cons_succ, i64_w, i32_w]
  rfl
 refine take_ (i := 2) (N := some 25) (v := ?_) (a' := ?_) #[true, false, true, false, true, false, false, false, false, false, false, false] rfl rfl (take_ofW HT_.out HW_.out (by kernel_rfl)) (fun _ _ _ h => h) (Or.inl ⟨by rfl, ?_⟩) hHeld ?_ ?_
 rotate_left
 ·rintro w' ⟨s0, s1, s2, s3, s4⟩
  go_simp
  with_reducible rfl
 rotate_left
 ·simp only [Act.put, List.setIfInBounds_toArray, List.set_cons_zero, List.set_cons_succ, i64_w, i32_w]
  rfl
 refine one_ (i := 1) (N := some 24) #[true, true, true, false, true, false, false, false, false, false, false, false] rfl rfl (one_of HT_.out (by kernel_rfl)) (by decide) (fun K hK => ?_)
 refine goes_ Try.func17 (by kernel_rfl) rfl #[.agg #[.int .i64 a0_0, .int .i64 a0_1, .slice A0_2 l0_2.length c0_2]] (by rfl) rfl rfl (by (try simp only [List.map_toArray, List.map_cons, List.map_nil]); first | done | rfl | (simp only [List.length_drop, List.length_take]; rfl)) ?_
 with_reducible refine (laws_toBoard.calls k a0_0 a0_1 _ _ l0_2 t1283 t1284 t1285 _ ?side1 ?side2 A14.out).mono ?_
 (case side1 => repeat (first | exact (Kd.C_below HR0_2.out HB.out) | (with_reducible refine Kd.C_alloc ?_ _) | (with_reducible refine Kd.C_drewN ?_ _) | (with_reducible refine Kd.C_drew ?_)))
 (case side2 => exact HC0_2.out)
 rintro e w29 ⟨v1286, rfl, ho0, hb⟩
 refine ⟨_, rfl, ?_⟩
 have n0_ := Aside0.mk (Kd.R_lower ho0 (below_size (by repeat (first | (with_reducible first | exact HB.out | apply below_alloc | apply pw_below_drewN | apply below_drew1 | refine below_set ?_ GE1280.out | refine below_set ?_ GE1281.out) | exact HB.out))))
 have n1_ := Aside0.mk (blk_below (g := gb1280) (o := .cells #[.int .i64 a0_0, .int .i64 a0_1, .slice A0_2 l0_2.length c0_2] 24 (0, 0)) (by (with_reducible repeat (first | refine blk_drewN ?_ _ | refine blk_drew ?_ | refine blk_alloc ?_ _)); exact BK1280.out) hb)
 have n2_ := Aside0.mk (blk_below (g := gb1281) (o := .cells #[.int .i64 a1_0, .int .i64 a1_1] 26 (0, 0)) (by (with_reducible repeat (first | refine blk_drewN ?_ _ | refine blk_drew ?_ | refine blk_alloc ?_ _)); exact BK1281.out) hb)
 have n3_ := Aside0.mk (below_step (by repeat (first | (with_reducible first | exact HB.out | apply below_alloc | apply pw_below_drewN | apply below_drew1 | refine below_set ?_ GE1280.out | refine below_set ?_ GE1281.out) | exact HB.out)) hb)
 clear BK1280
 clear BK1281
 clear HB
 have HO1287 := n0_
 have BK1280 := n1_
 have BK1281 := n2_
 have HB := n3_
 clear n0_ n1_ n2_ n3_
 (try clear hb)
 (try clear hb2)
 (try clear hk)
 (try clear hi)
 (try clear ho0)
 (try clear hna_)
 (try clear hnb_)
 refine hK.out _ _ ⟨(blk_cell BK1280.out 0).trans rfl, (blk_cell BK1280.out 1).trans rfl, (blk_cell BK1280.out 2).trans rfl, (blk_cell BK1281.out 0).trans rfl, (blk_cell BK1281.out 1).trans rfl⟩ (fun hHeld => ?_)
 clear hK K
 refine norm_ (a' := ?_) ?_ ?_
 rotate_left
 ·show Act.put _ (some 24) _ = _
  simp only [Act.put, List.setIfInBounds_toArray, List.set_cons_zero, List.set_cons_succ, i64_w, i32_w]
  rfl
 refine one_ (i := 3) (N := some 26) #[true, true, true, true, true, false, false, false, false, false, false, false] rfl rfl (one_of HT_.out (by kernel_rfl)) (by decide) (fun K hK => ?_)
 refine goes_ Try.func18 (by kernel_rfl) rfl #[.agg #[.int .i64 a1_0, .int .i64 a1_1]] (by rfl) rfl rfl (by (try simp only [List.map_toArray, List.map_cons, List.map_nil]); first | done | rfl | (simp only [List.length_drop, List.length_take]; rfl)) ?_
 with_reducible refine (laws_toLeaper.calls a1_0 a1_1 t1288 t1289 _ A15.out).mono ?_
 rintro e w30 ⟨rfl, hb⟩
 refine ⟨_, rfl, ?_⟩
 have n0_ := Aside0.mk (Kd.R_below (by (with_reducible repeat (first | apply Kd.R_alloc | apply Kd.R_drewN | apply Kd.R_drew)); exact HO1287.out) hb)
 have n1_ := Aside0.mk (blk_below (g := gb1280) (o := .cells #[.int .i64 a0_0, .int .i64 a0_1, .slice A0_2 l0_2.length c0_2] 24 (0, 0)) (by (with_reducible repeat (first | refine blk_drewN ?_ _ | refine blk_drew ?_ | refine blk_alloc ?_ _)); exact BK1280.out) hb)
 have n2_ := Aside0.mk (blk_below (g := gb1281) (o := .cells #[.int .i64 a1_0, .int .i64 a1_1] 26 (0, 0)) (by (with_reducible repeat (first | refine blk_drewN ?_ _ | refine blk_drew ?_ | refine blk_alloc ?_ _)); exact BK1281.out) hb)
 have n3_ := Aside0.mk (below_step (by repeat (first | (with_reducible first | exact HB.out | apply below_alloc | apply pw_below_drewN | apply below_drew1 | refine below_set ?_ GE1280.out | refine below_set ?_ GE1281.out) | exact HB.out)) hb)
 clear HO1287
 clear BK1280
 clear BK1281
 clear HB
 have HO1287 := n0_
 have BK1280 := n1_
 have BK1281 := n2_
 have HB := n3_
 clear n0_ n1_ n2_ n3_
 (try clear hb)
 (try clear hb2)
 (try clear hk)
 (try clear hi)
 (try clear hna_)
 (try clear hnb_)
 refine hK.out _ _ ⟨(blk_cell BK1280.out 0).trans rfl, (blk_cell BK1280.out 1).trans rfl, (blk_cell BK1280.out 2).trans rfl, (blk_cell BK1281.out 0).trans rfl, (blk_cell BK1281.out 1).trans rfl⟩ (fun hHeld => ?_)
 clear hK K
 refine norm_ (a' := ?_) ?_ ?_
 rotate_left
 ·show Act.put _ (some 26) _ = _
  simp only [Act.put, List.setIfInBounds_toArray, List.set_cons_zero, List.set_cons_succ, i64_w, i32_w]
  rfl
 refine one_ (i := 5) (N := some 28) #[true, true, true, true, true, true, false, false, false, false, false, false] rfl rfl (one_of HT_.out (by kernel_rfl)) (by decide) (fun K hK => ?_)
 refine goes_ Try.func26 (by kernel_rfl) rfl #[.slice A2 l2.length c2] (by rfl) rfl rfl (by (try simp only [List.map_toArray, List.map_cons, List.map_nil]); first | done | rfl | (simp only [List.length_drop, List.length_take]; rfl)) ?_
 with_reducible refine (laws_toIntS.calls k _ _ l2 t1290 _ ?side1 ?side2 A16.out).mono ?_
 (case side1 => repeat (first | exact (Kd.C_below HR2.out HB.out) | (with_reducible refine Kd.C_alloc ?_ _) | (with_reducible refine Kd.C_drewN ?_ _) | (with_reducible refine Kd.C_drew ?_)))
 (case side2 => exact HC2.out)
 rintro e w31 ⟨v1291, rfl, ho0, hb⟩
 refine ⟨_, rfl, ?_⟩
 have n0_ := Aside0.mk (Kd.R_elder' (by (with_reducible repeat (first | apply Kd.R_alloc | apply Kd.R_drewN | apply Kd.R_drew)); exact HO1287.out) (Kd.R_base ho0) hb)
 have n1_ := Aside0.mk (Kd.R_lower (Kd.R_new' ho0 (Kd.R_lt (by (with_reducible repeat (first | apply Kd.R_alloc | apply Kd.R_drewN | apply Kd.R_drew)); exact HO1287.out))) (below_size (by repeat (first | (with_reducible first | exact HB.out | apply below_alloc | apply pw_below_drewN | apply below_drew1 | refine below_set ?_ GE1280.out | refine below_set ?_ GE1281.out) | exact HB.out))))
 have n2_ := Aside0.mk (blk_below (g := gb1280) (o := .cells #[.int .i64 a0_0, .int .i64 a0_1, .slice A0_2 l0_2.length c0_2] 24 (0, 0)) (by (with_reducible repeat (first | refine blk_drewN ?_ _ | refine blk_drew ?_ | refine blk_alloc ?_ _)); exact BK1280.out) hb)
 have n3_ := Aside0.mk (blk_below (g := gb1281) (o := .cells #[.int .i64 a1_0, .int .i64 a1_1] 26 (0, 0)) (by (with_reducible repeat (first | refine blk_drewN ?_ _ | refine blk_drew ?_ | refine blk_alloc ?_ _)); exact BK1281.out) hb)
 have n4_ := Aside0.mk (below_step (by repeat (first | (with_reducible first | exact HB.out | apply below_alloc | apply pw_below_drewN | apply below_drew1 | refine below_set ?_ GE1280.out | refine below_set ?_ GE1281.out) | exact HB.out)) hb)
 clear HO1287
 clear BK1280
 clear BK1281
 clear HB
 have HO1287 := n0_
 have HO1292 := n1_
 have BK1280 := n2_
 have BK1281 := n3_
 have HB := n4_
 clear n0_ n1_ n2_ n3_ n4_
 (try clear hb)
 (try clear hb2)
 (try clear hk)
 (try clear hi)
 (try clear ho0)
 (try clear hna_)
 (try clear hnb_)
 obtain ⟨Ao32, co32, eo32⟩ := Kd.R_slice HO1287.out
 (first | subst eo32 | (injection eo32 with f1_ f2_ f3_; have f4_ := f1_.symm; have f5_ := f3_.symm; clear f1_ f2_ f3_; subst f4_; subst f5_))
 obtain ⟨Ao33, co33, eo33⟩ := Kd.R_slice HO1292.out
 (first | subst eo33 | (injection eo33 with f1_ f2_ f3_; have f4_ := f1_.symm; have f5_ := f3_.symm; clear f1_ f2_ f3_; subst f4_; subst f5_))
 refine hK.out _ _ ⟨(blk_cell BK1280.out 0).trans rfl, (blk_cell BK1280.out 1).trans rfl, (blk_cell BK1280.out 2).trans rfl, (blk_cell BK1281.out 0).trans rfl, (blk_cell BK1281.out 1).trans rfl⟩ (fun hHeld => ?_)
 clear hK K
 refine norm_ (a' := ?_) ?_ ?_
 rotate_left
 ·show Act.put _ (some 28) _ = _
  simp only [Act.put, List.setIfInBounds_toArray, List.set_cons_zero, List.set_cons_succ, i64_w, i32_w]
  rfl
 refine one_ (i := 6) (N := some 29) #[true, true, true, true, true, true, true, false, false, false, false, false] rfl rfl (one_of HT_.out (by kernel_rfl)) (by decide) (fun K hK => ?_)
 refine goes_ Try.func45 (by kernel_rfl) rfl #[.agg #[.int .i64 t1283, .int .i64 t1284, .slice Ao32 t1285.length co32], .agg #[.int .i64 t1288, .int .i64 t1289], .slice Ao33 t1290.length co33] (by rfl) rfl rfl (by (try simp only [List.map_toArray, List.map_cons, List.map_nil]); first | done | rfl | (simp only [List.length_drop, List.length_take]; rfl)) ?_
 with_reducible refine (spec_OppositePairs.calls k t1283 t1284 _ _ t1285 t1288 t1289 _ _ t1290 t1293 t1294 _ ?side1 ?side2 ?side3 ?side4 A17.out).mono ?_
 (case side1 => repeat (first | exact (Kd.R_reads' HO1287.out).2.2 | (with_reducible refine Kd.C_alloc ?_ _) | (with_reducible refine Kd.C_drewN ?_ _) | (with_reducible refine Kd.C_drew ?_)))
 (case side2 => exact (Kd.R_reads' HO1287.out).2.1)
 (case side3 => repeat (first | exact (Kd.R_reads' HO1292.out).2.2 | (with_reducible refine Kd.C_alloc ?_ _) | (with_reducible refine Kd.C_drewN ?_ _) | (with_reducible refine Kd.C_drew ?_)))
 (case side4 => exact (Kd.R_reads' HO1292.out).2.1)
 rintro e w34 ⟨rfl, hb⟩
 refine ⟨_, rfl, ?_⟩
 have n0_ := Aside0.mk (Kd.R_below (by (with_reducible repeat (first | apply Kd.R_alloc | apply Kd.R_drewN | apply Kd.R_drew)); exact HO1287.out) hb)
 have n1_ := Aside0.mk (Kd.R_below (by (with_reducible repeat (first | apply Kd.R_alloc | apply Kd.R_drewN | apply Kd.R_drew)); exact HO1292.out) hb)
 have n2_ := Aside0.mk (blk_below (g := gb1280) (o := .cells #[.int .i64 a0_0, .int .i64 a0_1, .slice A0_2 l0_2.length c0_2] 24 (0, 0)) (by (with_reducible repeat (first | refine blk_drewN ?_ _ | refine blk_drew ?_ | refine blk_alloc ?_ _)); exact BK1280.out) hb)
 have n3_ := Aside0.mk (blk_below (g := gb1281) (o := .cells #[.int .i64 a1_0, .int .i64 a1_1] 26 (0, 0)) (by (with_reducible repeat (first | refine blk_drewN ?_ _ | refine blk_drew ?_ | refine blk_alloc ?_ _)); exact BK1281.out) hb)
 have n4_ := Aside0.mk (below_step (by repeat (first | (with_reducible first | exact HB.out | apply below_alloc | apply pw_below_drewN | apply below_drew1 | refine below_set ?_ GE1280.out | refine below_set ?_ GE1281.out) | exact HB.out)) hb)
 clear HO1287
 clear HO1292
 clear BK1280
 clear BK1281
 clear HB
 have HO1287 := n0_
 have HO1292 := n1_
 have BK1280 := n2_
 have BK1281 := n3_
 have HB := n4_
 clear n0_ n1_ n2_ n3_ n4_
 (try clear hb)
 (try clear hb2)
 (try clear hk)
 (try clear hi)
 (try clear hna_)
 (try clear hnb_)
 refine hK.out _ _ ⟨(blk_cell BK1280.out 0).trans rfl, (blk_cell BK1280.out 1).trans rfl, (blk_cell BK1280.out 2).trans rfl, (blk_cell BK1281.out 0).trans rfl, (blk_cell BK1281.out 1).trans rfl⟩ (fun hHeld => ?_)
 clear hK K
 refine norm_ (a' := ?_) ?_ ?_
 rotate_left
 ·show Act.put _ (some 29) _ = _
  simp only [Act.put, List.setIfInBounds_toArray, List.set_cons_zero, List.set_cons_succ, i64_w, i32_w]
  rfl
 refine pure_ (i := 7) (N := some 22) (v := ?_) (a' := ?_) #[true, true, true, true, true, true, true, true, false, false, false, false] rfl rfl (any_of HT_.out (by kernel_rfl)) (fun _ _ _ h => h) (Or.inl ⟨by rfl, ?_⟩) ?_ ?_
 rotate_left
 ·intro w'
  go_simp
  with_reducible rfl
 rotate_left
 ·simp only [Act.put, List.setIfInBounds_toArray, List.set_cons_zero, List.set_cons_succ, i64_w, i32_w]
  rfl
 refine pure_ (i := 8) (N := some 30) (v := ?_) (a' := ?_) #[true, true, true, true, true, true, true, true, true, false, false, false] rfl rfl (any_of HT_.out (by kernel_rfl)) (fun _ _ _ h => h) (Or.inl ⟨by rfl, ?_⟩) ?_ ?_
 rotate_left
 ·intro w'
  go_simp
  with_reducible rfl
 rotate_left
 ·simp only [Act.put, List.setIfInBounds_toArray, List.set_cons_zero, List.set_cons_succ, i64_w, i32_w]
  rfl
 refine pure_ (i := 9) (N := some 31) (v := ?_) (a' := ?_) #[true, true, true, true, true, true, true, true, true, true, false, false] rfl rfl (any_of HT_.out (by kernel_rfl)) (fun _ _ _ h => h) (Or.inl ⟨by rfl, ?_⟩) ?_ ?_
 rotate_left
 ·intro w'
  go_simp
  with_reducible rfl
 rotate_left
 ·simp only [Act.put, List.setIfInBounds_toArray, List.set_cons_zero, List.set_cons_succ, i64_w, i32_w]
  rfl
 refine pure_ (i := 10) (N := some 8) (v := ?_) (a' := ?_) #[true, true, true, true, true, true, true, true, true, true, true, false] rfl rfl (any_of HT_.out (by kernel_rfl)) (fun _ _ _ h => h) (Or.inl ⟨by rfl, ?_⟩) ?_ ?_
 rotate_left
 ·intro w'
  go_simp
  with_reducible rfl
 rotate_left
 ·simp only [Act.put, List.setIfInBounds_toArray, List.set_cons_zero, List.set_cons_succ, i64_w, i32_w]
  rfl
 refine pure_ (i := 11) (N := some 9) (v := ?_) (a' := ?_) #[true, true, true, true, true, true, true, true, true, true, true, true] rfl rfl (any_of HT_.out (by kernel_rfl)) (fun _ _ _ h => h) (Or.inl ⟨by rfl, ?_⟩) ?_ ?_
 rotate_left
 ·intro w'
  go_simp
  with_reducible rfl
 rotate_left
 ·simp only [Act.put, List.setIfInBounds_toArray, List.set_cons_zero, List.set_cons_succ, i64_w, i32_w]
  rfl
 refine done_ (done_of HT_.out (by kernel_rfl)) ?_
 have hcz35_0 : w34.cell? ⟨gb1280, 0, none⟩ = some (.int .i64 a0_0) := (blk_cell BK1280.out 0).trans rfl
 have hcz35_1 : w34.cell? ⟨gb1280, 1, none⟩ = some (.int .i64 a0_1) := (blk_cell BK1280.out 1).trans rfl
 have hcz35_2 : w34.cell? ⟨gb1280, 2, none⟩ = some (.slice A0_2 l0_2.length c0_2) := (blk_cell BK1280.out 2).trans rfl
 have hfz35_0 := blk_frozen BK1280.out 0
 have hfz35_1 := blk_frozen BK1280.out 1
 have hfz35_2 := blk_frozen BK1280.out 2
 try go_wp2_with (first | ((with_reducible refine gate_callee (f := 17) rfl ?_); refine goesL_ (some 33) rfl rfl Try.func17 (by kernel_rfl) rfl #[.agg #[.int .i64 a0_0, .int .i64 a0_1, .slice A0_2 l0_2.length c0_2]] rfl (by (try simp only [List.map_toArray, List.map_cons, List.map_nil]); first | done | rfl | (simp only [List.length_drop, List.length_take]; rfl)) ?_; (with_reducible refine (laws_toBoard.calls k a0_0 a0_1 _ _ l0_2 t1295 t1296 t1297 _ ?side1 ?side2 A18.out).mono ?_); (case side1 => repeat (first | exact (Kd.C_below HR0_2.out HB.out) | (with_reducible refine Kd.C_alloc ?_ _) | (with_reducible refine Kd.C_drewN ?_ _) | (with_reducible refine Kd.C_drew ?_))); (case side2 => exact HC0_2.out); rintro e w36 ⟨v1298, rfl, ho0, hb⟩; refine ⟨_, rfl, ?_⟩; have n0_ := Aside0.mk (Kd.R_elder' (by (with_reducible repeat (first | apply Kd.R_alloc | apply Kd.R_drewN | apply Kd.R_drew)); exact HO1287.out) (Kd.R_base ho0) hb); have n1_ := Aside0.mk (Kd.R_elder' (by (with_reducible repeat (first | apply Kd.R_alloc | apply Kd.R_drewN | apply Kd.R_drew)); exact HO1292.out) (Kd.R_base ho0) hb); have n2_ := Aside0.mk (Kd.R_lower (Kd.R_new' (Kd.R_new' ho0 (Kd.R_lt (by (with_reducible repeat (first | apply Kd.R_alloc | apply Kd.R_drewN | apply Kd.R_drew)); exact HO1287.out))) (Kd.R_lt (by (with_reducible repeat (first | apply Kd.R_alloc | apply Kd.R_drewN | apply Kd.R_drew)); exact HO1292.out))) (below_size (by repeat (first | (with_reducible first | exact HB.out | apply below_alloc | apply pw_below_drewN | apply below_drew1 | refine below_set ?_ GE1280.out | refine below_set ?_ GE1281.out) | exact HB.out)))); have n3_ := Aside0.mk (blk_below (g := gb1280) (o := .cells #[.int .i64 a0_0, .int .i64 a0_1, .slice A0_2 l0_2.length c0_2] 24 (0, 0)) (by (with_reducible repeat (first | refine blk_drewN ?_ _ | refine blk_drew ?_ | refine blk_alloc ?_ _)); exact BK1280.out) hb); have n4_ := Aside0.mk (blk_below (g := gb1281) (o := .cells #[.int .i64 a1_0, .int .i64 a1_1] 26 (0, 0)) (by (with_reducible repeat (first | refine blk_drewN ?_ _ | refine blk_drew ?_ | refine blk_alloc ?_ _)); exact BK1281.out) hb); have n5_ := Aside0.mk (below_step (by repeat (first | (with_reducible first | exact HB.out | apply below_alloc | apply pw_below_drewN | apply below_drew1 | refine below_set ?_ GE1280.out | refine below_set ?_ GE1281.out) | exact HB.out)) hb); clear HO1287; clear HO1292; clear BK1280; clear BK1281; clear HB; have HO1287 := n0_; have HO1292 := n1_; have HO1299 := n2_; have BK1280 := n3_; have BK1281 := n4_; have HB := n5_; clear n0_ n1_ n2_ n3_ n4_ n5_; (try clear hb); (try clear hb2); (try clear hk); (try clear hi); (try clear ho0); (try clear hna_); (try clear hnb_)) | ((with_reducible refine gate_dst (N := 10) rfl ?_); refine box_event ?hg (N := 10) ?hd (cs := #[.int .i64 0, .int .i64 0, .slice none 0 0]) (t := 30) ?hr ?_; (case hd => rfl); (case hg => rfl); (case hr => first | (go_simp; done) | (go_simp; rfl)); intro gb1300 hg w37 hbox hb; have n0_ := Aside0.mk (Kd.R_below (by (with_reducible repeat (first | apply Kd.R_alloc | apply Kd.R_drewN | apply Kd.R_drew)); exact HO1287.out) hb); have n1_ := Aside0.mk (Kd.R_below (by (with_reducible repeat (first | apply Kd.R_alloc | apply Kd.R_drewN | apply Kd.R_drew)); exact HO1292.out) hb); have n2_ := Aside0.mk (Kd.R_below (by (with_reducible repeat (first | apply Kd.R_alloc | apply Kd.R_drewN | apply Kd.R_drew)); exact HO1299.out) hb); have n3_ := Aside0.mk (blk_below (g := gb1280) (o := .cells #[.int .i64 a0_0, .int .i64 a0_1, .slice A0_2 l0_2.length c0_2] 24 (0, 0)) (by (with_reducible repeat (first | refine blk_drewN ?_ _ | refine blk_drew ?_ | refine blk_alloc ?_ _)); exact BK1280.out) hb); have n4_ := Aside0.mk (blk_below (g := gb1281) (o := .cells #[.int .i64 a1_0, .int .i64 a1_1] 26 (0, 0)) (by (with_reducible repeat (first | refine blk_drewN ?_ _ | refine blk_drew ?_ | refine blk_alloc ?_ _)); exact BK1281.out) hb); have n5_ := Aside0.mk (below_step (by repeat (first | (with_reducible first | exact HB.out | apply below_alloc | apply pw_below_drewN | apply below_drew1 | refine below_set ?_ GE1280.out | refine below_set ?_ GE1281.out) | exact HB.out)) hb); have n6_ := Aside0.mk (hbox); have n7_ := Aside0.mk ((by rw [hg]; exact (below_size (by repeat (first | (with_reducible first | exact HB.out | apply below_alloc | apply pw_below_drewN | apply below_drew1 | refine below_set ?_ GE1280.out | refine below_set ?_ GE1281.out) | exact HB.out))) : w.heap.size ≤ gb1300)); have n8_ := Aside0.mk ((by rw [hg]; exact (below_size (by repeat (first | (with_reducible first | exact HB.out | apply below_alloc | apply pw_below_drewN | apply below_drew1 | refine below_set ?_ GE1280.out | refine below_set ?_ GE1281.out) | exact HB.out))) : w.heap.size ≤ gb1300)); have n9_ := Aside0.mk ((by rw [hg]; exact Nat.ne_of_lt (blk_lt (g := gb1280) (o := .cells #[.int .i64 a0_0, .int .i64 a0_1, .slice A0_2 l0_2.length c0_2] 24 (0, 0)) (by (with_reducible repeat (first | refine blk_drewN ?_ _ | refine blk_drew ?_ | refine blk_alloc ?_ _)); exact BK1280.out)) : gb1280 ≠ gb1300)); have n10_ := Aside0.mk ((by rw [hg]; exact Nat.ne_of_gt (blk_lt (g := gb1280) (o := .cells #[.int .i64 a0_0, .int .i64 a0_1, .slice A0_2 l0_2.length c0_2] 24 (0, 0)) (by (with_reducible repeat (first | refine blk_drewN ?_ _ | refine blk_drew ?_ | refine blk_alloc ?_ _)); exact BK1280.out)) : gb1300 ≠ gb1280)); have n11_ := Aside0.mk ((by rw [hg]; exact Nat.ne_of_lt (blk_lt (g := gb1281) (o := .cells #[.int .i64 a1_0, .int .i64 a1_1] 26 (0, 0)) (by (with_reducible repeat (first | refine blk_drewN ?_ _ | refine blk_drew ?_ | refine blk_alloc ?_ _)); exact BK1281.out)) : gb1281 ≠ gb1300)); have n12_ := Aside0.mk ((by rw [hg]; exact Nat.ne_of_gt (blk_lt (g := gb1281) (o := .cells #[.int .i64 a1_0, .int .i64 a1_1] 26 (0, 0)) (by (with_reducible repeat (first | refine blk_drewN ?_ _ | refine blk_drew ?_ | refine blk_alloc ?_ _)); exact BK1281.out)) : gb1300 ≠ gb1281)); clear HO1287; clear HO1292; clear HO1299; clear BK1280; clear BK1281; clear HB; have HO1287 := n0_; have HO1292 := n1_; have HO1299 := n2_; have BK1280 := n3_; have BK1281 := n4_; have HB := n5_; have BK1300 := n6_; have GW1300 := n7_; have GE1300 := n8_; have NB1280_1300 := n9_; have NB1300_1280 := n10_; have NB1281_1300 := n11_; have NB1300_1281 := n12_; clear n0_ n1_ n2_ n3_ n4_ n5_ n6_ n7_ n8_ n9_ n10_ n11_ n12_; clear hb hbox hg; have hnb38 := NB1300_1280.out; have hnc38 := NB1280_1300.out; have hnb39 := NB1300_1281.out; have hnc39 := NB1281_1300.out; have hcz40_0 : w37.cell? ⟨gb1300, 0, none⟩ = some (.int .i64 0) := (blk_cell BK1300.out 0).trans rfl; have hcz40_1 : w37.cell? ⟨gb1300, 1, none⟩ = some (.int .i64 0) := (blk_cell BK1300.out 1).trans rfl; have hcz40_2 : w37.cell? ⟨gb1300, 2, none⟩ = some (.slice none 0 0) := (blk_cell BK1300.out 2).trans rfl; have hfz40_0 := blk_frozen BK1300.out 0; have hfz40_1 := blk_frozen BK1300.out 1; have hfz40_2 := blk_frozen BK1300.out 2; obtain ⟨Ao41, co41, eo41⟩ := Kd.R_slice HO1299.out; subst eo41) | ((with_reducible refine gate_callee (f := 26) rfl ?_); refine goesL_ (some 35) rfl rfl Try.func26 (by kernel_rfl) rfl #[.slice A2 l2.length c2] rfl (by (try simp only [List.map_toArray, List.map_cons, List.map_nil]); first | done | rfl | (simp only [List.length_drop, List.length_take]; rfl)) ?_; (with_reducible refine (laws_toIntS.calls k _ _ l2 t1301 _ ?side1 ?side2 A19.out).mono ?_); (case side1 => exact Kd.C_below HR2.out (by repeat (first | (with_reducible first | exact HB.out | apply below_alloc | apply pw_below_drewN | apply below_drew1 | refine below_set ?_ GE1280.out | refine below_set ?_ GE1281.out | refine below_set ?_ GE1300.out) | exact HB.out))); (case side2 => exact HC2.out); rintro e w42 ⟨v1302, rfl, ho0, hb⟩; refine ⟨_, rfl, ?_⟩; have n0_ := Aside0.mk (Kd.R_elder' (by (with_reducible repeat (first | apply Kd.R_alloc | apply Kd.R_drewN | apply Kd.R_drew)); exact (Kd.R_mono (Kd.R_far (p := ⟨gb1300, 2, none⟩) (Kd.R_far (p := ⟨gb1300, 1, none⟩) (Kd.R_far (p := ⟨gb1300, 0, none⟩) (Kd.R_types HO1287.out BK1300.out (by decide)) (fun _ hk => hk.2) (.int .i64 t1295)) (fun _ hk => hk.2) (.int .i64 t1296)) (fun _ hk => hk.2) (.slice Ao41 t1297.length co41)) (fun _ h_ => h_.1))) (Kd.R_base ho0) hb); have n1_ := Aside0.mk (Kd.R_elder' (by (with_reducible repeat (first | apply Kd.R_alloc | apply Kd.R_drewN | apply Kd.R_drew)); exact (Kd.R_mono (Kd.R_far (p := ⟨gb1300, 2, none⟩) (Kd.R_far (p := ⟨gb1300, 1, none⟩) (Kd.R_far (p := ⟨gb1300, 0, none⟩) (Kd.R_types HO1292.out BK1300.out (by decide)) (fun _ hk => hk.2) (.int .i64 t1295)) (fun _ hk => hk.2) (.int .i64 t1296)) (fun _ hk => hk.2) (.slice Ao41 t1297.length co41)) (fun _ h_ => h_.1))) (Kd.R_base ho0) hb); have n2_ := Aside0.mk (Kd.R_elder' (by (with_reducible repeat (first | apply Kd.R_alloc | apply Kd.R_drewN | apply Kd.R_drew)); exact (Kd.R_mono (Kd.R_far (p := ⟨gb1300, 2, none⟩) (Kd.R_far (p := ⟨gb1300, 1, none⟩) (Kd.R_far (p := ⟨gb1300, 0, none⟩) (Kd.R_types HO1299.out BK1300.out (by decide)) (fun _ hk => hk.2) (.int .i64 t1295)) (fun _ hk => hk.2) (.int .i64 t1296)) (fun _ hk => hk.2) (.slice Ao41 t1297.length co41)) (fun _ h_ => h_.1))) (Kd.R_base ho0) hb); have n3_ := Aside0.mk (Kd.R_lower (Kd.R_new' (Kd.R_new' (Kd.R_new' ho0 (Kd.R_lt (by (with_reducible repeat (first | apply Kd.R_alloc | apply Kd.R_drewN | apply Kd.R_drew)); exact (Kd.R_mono (Kd.R_far (p := ⟨gb1300, 2, none⟩) (Kd.R_far (p := ⟨gb1300, 1, none⟩) (Kd.R_far (p := ⟨gb1300, 0, none⟩) (Kd.R_types HO1287.out BK1300.out (by decide)) (fun _ hk => hk.2) (.int .i64 t1295)) (fun _ hk => hk.2) (.int .i64 t1296)) (fun _ hk => hk.2) (.slice Ao41 t1297.length co41)) (fun _ h_ => h_.1))))) (Kd.R_lt (by (with_reducible repeat (first | apply Kd.R_alloc | apply Kd.R_drewN | apply Kd.R_drew)); exact (Kd.R_mono (Kd.R_far (p := ⟨gb1300, 2, none⟩) (Kd.R_far (p := ⟨gb1300, 1, none⟩) (Kd.R_far (p := ⟨gb1300, 0, none⟩) (Kd.R_types HO1292.out BK1300.out (by decide)) (fun _ hk => hk.2) (.int .i64 t1295)) (fun _ hk => hk.2) (.int .i64 t1296)) (fun _ hk => hk.2) (.slice Ao41 t1297.length co41)) (fun _ h_ => h_.1))))) (Kd.R_lt (by (with_reducible repeat (first | apply Kd.R_alloc | apply Kd.R_drewN | apply Kd.R_drew)); exact (Kd.R_mono (Kd.R_far (p := ⟨gb1300, 2, none⟩) (Kd.R_far (p := ⟨gb1300, 1, none⟩) (Kd.R_far (p := ⟨gb1300, 0, none⟩) (Kd.R_types HO1299.out BK1300.out (by decide)) (fun _ hk => hk.2) (.int .i64 t1295)) (fun _ hk => hk.2) (.int .i64 t1296)) (fun _ hk => hk.2) (.slice Ao41 t1297.length co41)) (fun _ h_ => h_.1))))) (below_size (by repeat (first | (with_reducible first | exact HB.out | apply below_alloc | apply pw_below_drewN | apply below_drew1 | refine below_set ?_ GE1280.out | refine below_set ?_ GE1281.out | refine below_set ?_ GE1300.out) | exact HB.out)))); have n4_ := Aside0.mk (blk_below (g := gb1280) (o := .cells #[.int .i64 a0_0, .int .i64 a0_1, .slice A0_2 l0_2.length c0_2] 24 (0, 0)) (by (with_reducible repeat (first | refine blk_drewN ?_ _ | refine blk_drew ?_ | refine blk_alloc ?_ _)); refine blk_far ?_ NB1280_1300.out _; (with_reducible repeat (first | refine blk_drewN ?_ _ | refine blk_drew ?_ | refine blk_alloc ?_ _)); refine blk_far ?_ NB1280_1300.out _; (with_reducible repeat (first | refine blk_drewN ?_ _ | refine blk_drew ?_ | refine blk_alloc ?_ _)); refine blk_far ?_ NB1280_1300.out _; (with_reducible repeat (first | refine blk_drewN ?_ _ | refine blk_drew ?_ | refine blk_alloc ?_ _)); exact BK1280.out) hb); have n5_ := Aside0.mk (blk_below (g := gb1281) (o := .cells #[.int .i64 a1_0, .int .i64 a1_1] 26 (0, 0)) (by (with_reducible repeat (first | refine blk_drewN ?_ _ | refine blk_drew ?_ | refine blk_alloc ?_ _)); refine blk_far ?_ NB1281_1300.out _; (with_reducible repeat (first | refine blk_drewN ?_ _ | refine blk_drew ?_ | refine blk_alloc ?_ _)); refine blk_far ?_ NB1281_1300.out _; (with_reducible repeat (first | refine blk_drewN ?_ _ | refine blk_drew ?_ | refine blk_alloc ?_ _)); refine blk_far ?_ NB1281_1300.out _; (with_reducible repeat (first | refine blk_drewN ?_ _ | refine blk_drew ?_ | refine blk_alloc ?_ _)); exact BK1281.out) hb); have n6_ := Aside0.mk (blk_below (g := gb1300) (o := .cells #[.int .i64 t1295, .int .i64 t1296, .slice Ao41 t1297.length co41] 30 (0, 0)) (by (with_reducible repeat (first | refine blk_drewN ?_ _ | refine blk_drew ?_ | refine blk_alloc ?_ _)); refine blk_put (cs := #[.int .i64 t1295, .int .i64 t1296, .slice none 0 0]) ?_ 2 _ rfl; (with_reducible repeat (first | refine blk_drewN ?_ _ | refine blk_drew ?_ | refine blk_alloc ?_ _)); refine blk_put (cs := #[.int .i64 t1295, .int .i64 0, .slice none 0 0]) ?_ 1 _ rfl; (with_reducible repeat (first | refine blk_drewN ?_ _ | refine blk_drew ?_ | refine blk_alloc ?_ _)); refine blk_put (cs := #[.int .i64 0, .int .i64 0, .slice none 0 0]) ?_ 0 _ rfl; (with_reducible repeat (first | refine blk_drewN ?_ _ | refine blk_drew ?_ | refine blk_alloc ?_ _)); exact BK1300.out) hb); have n7_ := Aside0.mk (below_step (by repeat (first | (with_reducible first | exact HB.out | apply below_alloc | apply pw_below_drewN | apply below_drew1 | refine below_set ?_ GE1280.out | refine below_set ?_ GE1281.out | refine below_set ?_ GE1300.out) | exact HB.out)) hb); clear HO1287; clear HO1292; clear HO1299; clear BK1280; clear BK1281; clear BK1300; clear HB; have HO1287 := n0_; have HO1292 := n1_; have HO1299 := n2_; have HO1303 := n3_; have BK1280 := n4_; have BK1281 := n5_; have BK1300 := n6_; have HB := n7_; clear n0_ n1_ n2_ n3_ n4_ n5_ n6_ n7_; (try clear hb); (try clear hb2); (try clear hk); (try clear hi); (try clear ho0); (try clear hna_); (try clear hnb_)))
 have n0_ := Aside0.mk (Kd.R_drew HO1287.out)
 have n1_ := Aside0.mk (Kd.R_drew HO1292.out)
 have n2_ := Aside0.mk (Kd.R_drew HO1299.out)
 have n3_ := Aside0.mk (Kd.R_drew HO1303.out)
 have n4_ := Aside0.mk (blk_drew BK1280.out)
 have n5_ := Aside0.mk (blk_drew BK1281.out)
 have n6_ := Aside0.mk (blk_drew BK1300.out)
 have n7_ := Aside0.mk (below_drew1 HB.out)
 clear HO1287
 clear HO1292
 clear HO1299
 clear HO1303
 clear BK1280
 clear BK1281
 clear BK1300
 clear HB
 have HO1287 := n0_
 have HO1292 := n1_
 have HO1299 := n2_
 have HO1303 := n3_
 have BK1280 := n4_
 have BK1281 := n5_
 have BK1300 := n6_
 have HB := n7_
 clear n0_ n1_ n2_ n3_ n4_ n5_ n6_ n7_
 refine start_ (n := 10) (S := fun w' => w'.cell? ⟨gb1300, 0, none⟩ = some (.int .i64 t1295) ∧ w'.cell? ⟨gb1300, 1, none⟩ = some (.int .i64 t1296) ∧ w'.cell? ⟨gb1300, 2, none⟩ = some (.slice Ao41 t1297.length co41) ∧ w'.cell? ⟨gb1281, 0, none⟩ = some (.int .i64 a1_0) ∧ w'.cell? ⟨gb1281, 1, none⟩ = some (.int .i64 a1_1)) (ds := []) #[false, false, false, false, false, false, false, false, false, false] (by kernel_rfl) rfl rfl ⟨(blk_cell BK1300.out 0).trans rfl, (blk_cell BK1300.out 1).trans rfl, (blk_cell BK1300.out 2).trans rfl, (blk_cell BK1281.out 0).trans rfl, (blk_cell BK1281.out 1).trans rfl⟩ (fun hHeld => ?_); refine with_tabW laws_FnExactOppositePairs.tab10 laws_FnExactOppositePairs.bits10 (fun HT_ HW_ => ?_)
 generalize w42.drew = w43 at HO1287 HO1292 HO1299 HO1303 BK1280 BK1281 BK1300 HB hHeld ⊢
 refine pure_ (i := 3) (N := some 40) (v := ?_) (a' := ?_) #[false, false, false, true, false, false, false, false, false, false] rfl rfl (any_of HT_.out (by kernel_rfl)) (fun _ _ _ h => h) (Or.inl ⟨by rfl, ?_⟩) ?_ ?_
 rotate_left
 ·intro w'
  go_simp
  with_reducible rfl
 rotate_left
 ·simp only [Act.put, List.setIfInBounds_toArray, List.set_cons_zero, List.set_cons_succ, i64_w, i32_w]
  rfl
 refine take_ (i := 0) (N := some 37) (v := ?_) (a' := ?_) #[true, false, false, true, false, false, false, false, false, false] rfl rfl (take_ofW HT_.out HW_.out (by kernel_rfl)) (fun _ _ _ h => h) (Or.inl ⟨by rfl, ?_⟩) hHeld ?_ ?_
 rotate_left
 ·rintro w' ⟨s0, s1, s2, s3, s4⟩
  go_simp
  with_reducible rfl
 rotate_left
 ·simp only [Act.put, List.setIfInBounds_toArray, List.set_cons_zero, List.set_cons_succ, i64_w, i32_w]
  rfl
 refine take_ (i := 1) (N := some 38) (v := ?_) (a' := ?_) #[true, true, false, true, false, false, false, false, false, false] rfl rfl (take_ofW HT_.out HW_.out (by kernel_rfl)) (fun _ _ _ h => h) (Or.inl ⟨by rfl, ?_⟩) hHeld ?_ ?_
 rotate_left
 ·rintro w' ⟨s0, s1, s2, s3, s4⟩
  go_simp
  with_reducible rfl
 rotate_left
 ·simp only [Act.put, List.setIfInBounds_toArray, List.set_cons_zero, List.set_cons_succ, i64_w, i32_w]
  rfl
 refine one_ (i := 2) (N := some 39) #[true, true, true, true, false, false, false, false, false, false] rfl rfl (one_of HT_.out (by kernel_rfl)) (by decide) (fun K hK => ?_)
 refine goes_ Try.func18 (by kernel_rfl) rfl #[.agg #[.int .i64 a1_0, .int .i64 a1_1]] (by rfl) rfl rfl (by (try simp only [List.map_toArray, List.map_cons, List.map_nil]); first | done | rfl | (simp only [List.length_drop, List.length_take]; rfl)) ?_
 with_reducible refine (laws_toLeaper.calls a1_0 a1_1 t1304 t1305 _ A20.out).mono ?_
 rintro e w44 ⟨rfl, hb⟩
 refine ⟨_, rfl, ?_⟩
 have n0_ := Aside0.mk (Kd.R_below (by (with_reducible repeat (first | apply Kd.R_alloc | apply Kd.R_drewN | apply Kd.R_drew)); exact HO1287.out) hb)
 have n1_ := Aside0.mk (Kd.R_below (by (with_reducible repeat (first | apply Kd.R_alloc | apply Kd.R_drewN | apply Kd.R_drew)); exact HO1292.out) hb)
 have n2_ := Aside0.mk (Kd.R_below (by (with_reducible repeat (first | apply Kd.R_alloc | apply Kd.R_drewN | apply Kd.R_drew)); exact HO1299.out) hb)
 have n3_ := Aside0.mk (Kd.R_below (by (with_reducible repeat (first | apply Kd.R_alloc | apply Kd.R_drewN | apply Kd.R_drew)); exact HO1303.out) hb)
 have n4_ := Aside0.mk (blk_below (g := gb1280) (o := .cells #[.int .i64 a0_0, .int .i64 a0_1, .slice A0_2 l0_2.length c0_2] 24 (0, 0)) (by (with_reducible repeat (first | refine blk_drewN ?_ _ | refine blk_drew ?_ | refine blk_alloc ?_ _)); exact BK1280.out) hb)
 have n5_ := Aside0.mk (blk_below (g := gb1281) (o := .cells #[.int .i64 a1_0, .int .i64 a1_1] 26 (0, 0)) (by (with_reducible repeat (first | refine blk_drewN ?_ _ | refine blk_drew ?_ | refine blk_alloc ?_ _)); exact BK1281.out) hb)
 have n6_ := Aside0.mk (blk_below (g := gb1300) (o := .cells #[.int .i64 t1295, .int .i64 t1296, .slice Ao41 t1297.length co41] 30 (0, 0)) (by (with_reducible repeat (first | refine blk_drewN ?_ _ | refine blk_drew ?_ | refine blk_alloc ?_ _)); exact BK1300.out) hb)
 have n7_ := Aside0.mk (below_step (by repeat (first | (with_reducible first | exact HB.out | apply below_alloc | apply pw_below_drewN | apply below_drew1 | refine below_set ?_ GE1280.out | refine below_set ?_ GE1281.out | refine below_set ?_ GE1300.out) | exact HB.out)) hb)
 clear HO1287
 clear HO1292
 clear HO1299
 clear HO1303
 clear BK1280
 clear BK1281
 clear BK1300
 clear HB
 have HO1287 := n0_
 have HO1292 := n1_
 have HO1299 := n2_
 have HO1303 := n3_
 have BK1280 := n4_
 have BK1281 := n5_
 have BK1300 := n6_
 have HB := n7_
 clear n0_ n1_ n2_ n3_ n4_ n5_ n6_ n7_
 (try clear hb)
 (try clear hb2)
 (try clear hk)
 (try clear hi)
 (try clear hna_)
 (try clear hnb_)
 obtain ⟨Ao45, co45, eo45⟩ := Kd.R_slice HO1303.out
 (first | subst eo45 | (injection eo45 with f1_ f2_ f3_; have f4_ := f1_.symm; have f5_ := f3_.symm; clear f1_ f2_ f3_; subst f4_; subst f5_))
 refine hK.out _ _ ⟨(blk_cell BK1300.out 0).trans rfl, (blk_cell BK1300.out 1).trans rfl, (blk_cell BK1300.out 2).trans rfl, (blk_cell BK1281.out 0).trans rfl, (blk_cell BK1281.out 1).trans rfl⟩ (fun hHeld => ?_)
 clear hK K
 refine norm_ (a' := ?_) ?_ ?_
 rotate_left
 ·show Act.put _ (some 39) _ = _
  simp only [Act.put, List.setIfInBounds_toArray, List.set_cons_zero, List.set_cons_succ, i64_w, i32_w]
  rfl
 refine one_ (i := 4) (N := some 41) #[true, true, true, true, true, false, false, false, false, false] rfl rfl (one_of HT_.out (by kernel_rfl)) (by decide) (fun K hK => ?_)
 refine goes_ Try.func46 (by kernel_rfl) rfl #[.agg #[.int .i64 t1295, .int .i64 t1296, .slice Ao41 t1297.length co41], .agg #[.int .i64 t1304, .int .i64 t1305], .slice Ao45 t1301.length co45] (by rfl) rfl rfl (by (try simp only [List.map_toArray, List.map_cons, List.map_nil]); first | done | rfl | (simp only [List.length_drop, List.length_take]; rfl)) ?_
 with_reducible refine (impl_OppositePairs.calls k t1295 t1296 _ _ t1297 t1304 t1305 _ _ t1301 t1306 t1307 _ ?side1 ?side2 ?side3 ?side4 A21.out).mono ?_
 (case side1 => repeat (first | exact (Kd.R_reads' HO1299.out).2.2 | (with_reducible refine Kd.C_alloc ?_ _) | (with_reducible refine Kd.C_drewN ?_ _) | (with_reducible refine Kd.C_drew ?_)))
 (case side2 => exact (Kd.R_reads' HO1299.out).2.1)
 (case side3 => repeat (first | exact (Kd.R_reads' HO1303.out).2.2 | (with_reducible refine Kd.C_alloc ?_ _) | (with_reducible refine Kd.C_drewN ?_ _) | (with_reducible refine Kd.C_drew ?_)))
 (case side4 => exact (Kd.R_reads' HO1303.out).2.1)
 rintro e w46 ⟨rfl, hb⟩
 refine ⟨_, rfl, ?_⟩
 have n0_ := Aside0.mk (Kd.R_below (by (with_reducible repeat (first | apply Kd.R_alloc | apply Kd.R_drewN | apply Kd.R_drew)); exact HO1287.out) hb)
 have n1_ := Aside0.mk (Kd.R_below (by (with_reducible repeat (first | apply Kd.R_alloc | apply Kd.R_drewN | apply Kd.R_drew)); exact HO1292.out) hb)
 have n2_ := Aside0.mk (Kd.R_below (by (with_reducible repeat (first | apply Kd.R_alloc | apply Kd.R_drewN | apply Kd.R_drew)); exact HO1299.out) hb)
 have n3_ := Aside0.mk (Kd.R_below (by (with_reducible repeat (first | apply Kd.R_alloc | apply Kd.R_drewN | apply Kd.R_drew)); exact HO1303.out) hb)
 have n4_ := Aside0.mk (blk_below (g := gb1280) (o := .cells #[.int .i64 a0_0, .int .i64 a0_1, .slice A0_2 l0_2.length c0_2] 24 (0, 0)) (by (with_reducible repeat (first | refine blk_drewN ?_ _ | refine blk_drew ?_ | refine blk_alloc ?_ _)); exact BK1280.out) hb)
 have n5_ := Aside0.mk (blk_below (g := gb1281) (o := .cells #[.int .i64 a1_0, .int .i64 a1_1] 26 (0, 0)) (by (with_reducible repeat (first | refine blk_drewN ?_ _ | refine blk_drew ?_ | refine blk_alloc ?_ _)); exact BK1281.out) hb)
 have n6_ := Aside0.mk (blk_below (g := gb1300) (o := .cells #[.int .i64 t1295, .int .i64 t1296, .slice Ao41 t1297.length co41] 30 (0, 0)) (by (with_reducible repeat (first | refine blk_drewN ?_ _ | refine blk_drew ?_ | refine blk_alloc ?_ _)); exact BK1300.out) hb)
 have n7_ := Aside0.mk (below_step (by repeat (first | (with_reducible first | exact HB.out | apply below_alloc | apply pw_below_drewN | apply below_drew1 | refine below_set ?_ GE1280.out | refine below_set ?_ GE1281.out | refine below_set ?_ GE1300.out) | exact HB.out)) hb)
 clear HO1287
 clear HO1292
 clear HO1299
 clear HO1303
 clear BK1280
 clear BK1281
 clear BK1300
 clear HB
 have HO1287 := n0_
 have HO1292 := n1_
 have HO1299 := n2_
 have HO1303 := n3_
 have BK1280 := n4_
 have BK1281 := n5_
 have BK1300 := n6_
 have HB := n7_
 clear n0_ n1_ n2_ n3_ n4_ n5_ n6_ n7_
 (try clear hb)
 (try clear hb2)
 (try clear hk)
 (try clear hi)
 (try clear hna_)
 (try clear hnb_)
 refine hK.out _ _ ⟨(blk_cell BK1300.out 0).trans rfl, (blk_cell BK1300.out 1).trans rfl, (blk_cell BK1300.out 2).trans rfl, (blk_cell BK1281.out 0).trans rfl, (blk_cell BK1281.out 1).trans rfl⟩ (fun hHeld => ?_)
 clear hK K
 refine norm_ (a' := ?_) ?_ ?_
 rotate_left
 ·show Act.put _ (some 41) _ = _
  simp only [Act.put, List.setIfInBounds_toArray, List.set_cons_zero, List.set_cons_succ, i64_w, i32_w]
  rfl
 refine pure_ (i := 5) (N := some 36) (v := ?_) (a' := ?_) #[true, true, true, true, true, true, false, false, false, false] rfl rfl (any_of HT_.out (by kernel_rfl)) (fun _ _ _ h => h) (Or.inl ⟨by rfl, ?_⟩) ?_ ?_
 rotate_left
 ·intro w'
  go_simp
  with_reducible rfl
 rotate_left
 ·simp only [Act.put, List.setIfInBounds_toArray, List.set_cons_zero, List.set_cons_succ, i64_w, i32_w]
  rfl
 refine pure_ (i := 6) (N := some 42) (v := ?_) (a' := ?_) #[true, true, true, true, true, true, true, false, false, false] rfl rfl (any_of HT_.out (by kernel_rfl)) (fun _ _ _ h => h) (Or.inl ⟨by rfl, ?_⟩) ?_ ?_
 rotate_left
 ·intro w'
  go_simp
  with_reducible rfl
 rotate_left
 ·simp only [Act.put, List.setIfInBounds_toArray, List.set_cons_zero, List.set_cons_succ, i64_w, i32_w]
  rfl
 refine pure_ (i := 7) (N := some 43) (v := ?_) (a' := ?_) #[true, true, true, true, true, true, true, true, false, false] rfl rfl (any_of HT_.out (by kernel_rfl)) (fun _ _ _ h => h) (Or.inl ⟨by rfl, ?_⟩) ?_ ?_
 rotate_left
 ·intro w'
  go_simp
  with_reducible rfl
 rotate_left
 ·simp only [Act.put, List.setIfInBounds_toArray, List.set_cons_zero, List.set_cons_succ, i64_w, i32_w]
  rfl
 refine pure_ (i := 8) (N := some 12) (v := ?_) (a' := ?_) #[true, true, true, true, true, true, true, true, true, false] rfl rfl (any_of HT_.out (by kernel_rfl)) (fun _ _ _ h => h) (Or.inl ⟨by rfl, ?_⟩) ?_ ?_
 rotate_left
 ·intro w'
  go_simp
  with_reducible rfl
 rotate_left
 ·simp only [Act.put, List.setIfInBounds_toArray, List.set_cons_zero, List.set_cons_succ, i64_w, i32_w]
  rfl
 refine pure_ (i := 9) (N := some 13) (v := ?_) (a' := ?_) #[true, true, true, true, true, true, true, true, true, true] rfl rfl (any_of HT_.out (by kernel_rfl)) (fun _ _ _ h => h) (Or.inl ⟨by rfl, ?_⟩) ?_ ?_
 rotate_left
 ·intro w'
  go_simp
  with_reducible rfl
 rotate_left
 ·simp only [Act.put, List.setIfInBounds_toArray, List.set_cons_zero, List.set_cons_succ, i64_w, i32_w]
  rfl
 refine done_ (done_of HT_.out (by kernel_rfl)) ?_
 go_upto_region 11 with (fail)
 go_cut [51] (fun v51 wc => ∃ (kq : Nat) (x51_21 : Bool), v51 = .bool x51_21 ∧ Aside0 (laws_FnExactOppositePairs.j0 kq l2 t1301 x51_21 a0_0 a0_1 l0_2 t1295 t1296 t1297 = some r) ∧ Aside0 (kq ≤ k) ∧ Aside0 (Kd.R (Kd.int .i64) 3 wc w.heap.size (fun k_ => some k_ ≠ ((.slice Ao41 t1297.length co41) : Value).ownBlock) (.slice Ao45 t1301.length co45) t1301) ∧ Aside0 (Kd.R (Kd.int .i64) 3 wc w.heap.size (fun k_ => some k_ ≠ ((.slice Ao45 t1301.length co45) : Value).ownBlock) (.slice Ao41 t1297.length co41) t1297) ∧ Aside0 (wc.heap[gb1280]? = some (.cells #[.int .i64 a0_0, .int .i64 a0_1, (.slice A0_2 l0_2.length c0_2)] 24 (0, 0))) ∧ Aside0 (wc.heap[gb1281]? = some (.cells #[.int .i64 a1_0, .int .i64 a1_1] 26 (0, 0))) ∧ Aside0 (wc.heap[gb1300]? = some (.cells #[.int .i64 t1295, .int .i64 t1296, (.slice Ao41 t1297.length co41)] 30 (0, 0))) ∧ Aside0 (Below w.heap.size w wc))
 case first =>
  have H := HC22.out
  clear HC22
  by_cases c47 : t1306 = t1293
  rotate_left
  ·rw [if_neg c47] at H
   have c47b0 : (t1306 == t1293) = false := beq_eq_false_iff_ne.mpr c47
   have c47b1 : (t1306 != t1293) = true := bne_iff_ne.mpr c47
   (first | rw [c47b0] | (simp only [i64_w, i32_w]; rw [c47b0]) | skip)
   have H' := Aside0.mk H
   clear H
   go_wp2
   go_meet
   case rel => exact ⟨_, (true), (by first | rfl | (simp; done) | (simp [*]; done)), H', ⟨by first | omega | exact Nat.le_refl _⟩, ⟨by (with_reducible repeat (first | apply Kd.R_alloc | apply Kd.R_drewN | apply Kd.R_drew)); exact Kd.R_mono HO1303.out (fun _ hk => hk.2)⟩, ⟨by (with_reducible repeat (first | apply Kd.R_alloc | apply Kd.R_drewN | apply Kd.R_drew)); exact Kd.R_mono HO1299.out (fun _ hk => hk.2)⟩, ⟨by (with_reducible repeat (first | refine blk_drewN ?_ _ | refine blk_drew ?_ | refine blk_alloc ?_ _)); exact BK1280.out⟩, ⟨by (with_reducible repeat (first | refine blk_drewN ?_ _ | refine blk_drew ?_ | refine blk_alloc ?_ _)); exact BK1281.out⟩, ⟨by (with_reducible repeat (first | refine blk_drewN ?_ _ | refine blk_drew ?_ | refine blk_alloc ?_ _)); exact BK1300.out⟩, ⟨by repeat (first | (with_reducible first | exact HB.out | apply below_alloc | apply pw_below_drewN | apply below_drew1 | refine below_set ?_ GE1280.out | refine below_set ?_ GE1281.out | refine below_set ?_ GE1300.out) | exact HB.out)⟩⟩
  rw [if_pos c47] at H
  have c47b0 : (t1306 == t1293) = true := beq_iff_eq.mpr c47
  have c47b1 : (t1306 != t1293) = false := bne_eq_false_iff_eq.mpr c47
  clear c47
  (first | rw [c47b0] | (simp only [i64_w, i32_w]; rw [c47b0]) | skip)
  have H' := Aside0.mk H
  clear H
  go_wp2
  go_meet
  case rel => exact ⟨_, ((t1307 != t1294)), (by first | rfl | (simp; done) | (simp [*]; done)), H', ⟨by first | omega | exact Nat.le_refl _⟩, ⟨by (with_reducible repeat (first | apply Kd.R_alloc | apply Kd.R_drewN | apply Kd.R_drew)); exact Kd.R_mono HO1303.out (fun _ hk => hk.2)⟩, ⟨by (with_reducible repeat (first | apply Kd.R_alloc | apply Kd.R_drewN | apply Kd.R_drew)); exact Kd.R_mono HO1299.out (fun _ hk => hk.2)⟩, ⟨by (with_reducible repeat (first | refine blk_drewN ?_ _ | refine blk_drew ?_ | refine blk_alloc ?_ _)); exact BK1280.out⟩, ⟨by (with_reducible repeat (first | refine blk_drewN ?_ _ | refine blk_drew ?_ | refine blk_alloc ?_ _)); exact BK1281.out⟩, ⟨by (with_reducible repeat (first | refine blk_drewN ?_ _ | refine blk_drew ?_ | refine blk_alloc ?_ _)); exact BK1300.out⟩, ⟨by repeat (first | (with_reducible first | exact HB.out | apply below_alloc | apply pw_below_drewN | apply below_drew1 | refine below_set ?_ GE1280.out | refine below_set ?_ GE1281.out | refine below_set ?_ GE1300.out) | exact HB.out)⟩⟩
 case rest =>
  clear HC22
  try clear c1; try clear c2; try clear p2; try clear c3; try clear c4; try clear c4b0; try clear c4b1; try clear c8; try clear c8b0; try clear c11; try clear c13; try clear c15; try clear c17; try clear c18; try clear c25; try clear c26; try clear c38; try clear c39; try clear c45; try clear c46; try clear c47; try clear c47b0; try clear c47b1; try clear hcz12_0; try clear hcz12_1; try clear hcz12_2; try clear hcz26_0; try clear hcz26_1; try clear hcz26_2; try clear hcz35_0; try clear hcz35_1; try clear hcz35_2; try clear hcz40_0; try clear hcz40_1; try clear hcz40_2; try clear hfz12_0; try clear hfz12_1
  try clear hfz12_2; try clear hfz26_0; try clear hfz26_1; try clear hfz26_2; try clear hfz35_0; try clear hfz35_1; try clear hfz35_2; try clear hfz40_0; try clear hfz40_1; try clear hfz40_2
  obtain ⟨kq, x51_21, rfl, HA, HJ21, HO_11, HO_1301002, BK1280, BK1281, BK1300, HB⟩ := hcut
  cases kq with
  | zero => exact absurd HA.out (by simp [laws_FnExactOppositePairs.j0])
  | succ kj21 =>
   have H := HA.out
   clear HA
   simp only [laws_FnExactOppositePairs.j0] at H
   by_cases c48 : x51_21 = true
   ·subst c48
    have H1 : (some false) = some r := by rw [if_pos rfl] at H; exact H
    clear H
    have H := H1
    clear H1
    obtain rfl := Option.some.inj H
    go_wp2
    go_ret
    exact ⟨by first | rfl | (simp [errW_none, errW_some] <;> rfl) | (simp [*, errW_none, errW_some] <;> rfl), by repeat (first | (with_reducible first | exact HB.out | apply below_alloc | apply pw_below_drewN | apply below_drew1 | refine below_set ?_ GE1280.out | refine below_set ?_ GE1281.out | refine below_set ?_ GE1300.out) | exact HB.out)⟩
   replace c48 := Bool.eq_false_iff.mpr c48
   subst c48
   have H1 : ((laws_toBoard.f kj21 a0_0 a0_1 l0_2).bind fun bt1308 => ((laws_eqBoard.f kj21 t1295 t1296 t1297 bt1308.1 bt1308.2.1 bt1308.2.2).bind fun t1313 => (if t1313 = true then ((laws_toIntS.f kj21 l2).bind fun t1314 => ((laws_eqIntS.f kj21 t1301 t1314).bind fun t1317 => (if t1317 = true then (some true) else (some false)))) else (some false)))) = some r := by rw [if_neg (show ¬ (false = true) by decide)] at H; exact H
   clear H
   have H := H1
   clear H1
   replace H := Option.bind_eq_some_iff.mp H
   obtain ⟨⟨t1308, t1309, t1310⟩, A490, H⟩ := H
   replace H : ((laws_eqBoard.f kj21 t1295 t1296 t1297 t1308 t1309 t1310).bind fun t1313 => (if t1313 = true then ((laws_toIntS.f kj21 l2).bind fun t1314 => ((laws_eqIntS.f kj21 t1301 t1314).bind fun t1317 => (if t1317 = true then (some true) else (some false)))) else (some false))) = some r := H
   have A49 := Aside0.mk A490
   clear A490
   replace H := Option.bind_eq_some_iff.mp H
   obtain ⟨t1313, A500, H⟩ := H
   replace H : (if t1313 = true then ((laws_toIntS.f kj21 l2).bind fun t1314 => ((laws_eqIntS.f kj21 t1301 t1314).bind fun t1317 => (if t1317 = true then (some true) else (some false)))) else (some false)) = some r := H
   have A50 := Aside0.mk A500
   clear A500
   by_cases c51 : t1313 = true
   rotate_left
   ·replace c51 := Bool.eq_false_iff.mpr c51
    subst c51
    have H1 : (some false) = some r := by rw [if_neg (show ¬ (false = true) by decide)] at H; exact H
    clear H
    have H := H1
    clear H1
    obtain rfl := Option.some.inj H
    try go_wp2
    have n0_ := Aside0.mk (Kd.R_drew HO_11.out)
    have n1_ := Aside0.mk (Kd.R_drew HO_1301002.out)
    have n2_ := Aside0.mk (blk_drew BK1280.out)
    have n3_ := Aside0.mk (blk_drew BK1281.out)
    have n4_ := Aside0.mk (blk_drew BK1300.out)
    have n5_ := Aside0.mk (below_drew1 HB.out)
    clear HO_11
    clear HO_1301002
    clear BK1280
    clear BK1281
    clear BK1300
    clear HB
    have HO_11 := n0_
    have HO_1301002 := n1_
    have BK1280 := n2_
    have BK1281 := n3_
    have BK1300 := n4_
    have HB := n5_
    clear n0_ n1_ n2_ n3_ n4_ n5_
    refine start_ (n := 5) (S := fun w' => w'.cell? ⟨gb1300, 0, none⟩ = some (.int .i64 t1295) ∧ w'.cell? ⟨gb1300, 1, none⟩ = some (.int .i64 t1296) ∧ w'.cell? ⟨gb1300, 2, none⟩ = some (.slice Ao41 t1297.length co41) ∧ w'.cell? ⟨gb1280, 0, none⟩ = some (.int .i64 a0_0) ∧ w'.cell? ⟨gb1280, 1, none⟩ = some (.int .i64 a0_1) ∧ w'.cell? ⟨gb1280, 2, none⟩ = some (.slice A0_2 l0_2.length c0_2)) (ds := []) #[false, false, false, false, false] (by kernel_rfl) rfl rfl ⟨(blk_cell BK1300.out 0).trans rfl, (blk_cell BK1300.out 1).trans rfl, (blk_cell BK1300.out 2).trans rfl, (blk_cell BK1280.out 0).trans rfl, (blk_cell BK1280.out 1).trans rfl, (blk_cell BK1280.out 2).trans rfl⟩ (fun hHeld => ?_)
    generalize wc.drew = w67 at HO_11 HO_1301002 BK1280 BK1281 BK1300 HB hHeld ⊢
    refine take_ (i := 0) (N := some 52) (v := ?_) (a' := ?_) #[true, false, false, false, false] rfl rfl (by kernel_rfl) (fun _ _ _ h => h) (Or.inl ⟨by rfl, ?_⟩) hHeld ?_ ?_
    rotate_left
    ·rintro w' ⟨s0, s1, s2, s3, s4, s5⟩
     go_simp
     with_reducible rfl
    rotate_left
    ·simp only [Act.put, List.setIfInBounds_toArray, List.set_cons_zero, List.set_cons_succ, i64_w, i32_w]
     rfl
    refine take_ (i := 1) (N := some 53) (v := ?_) (a' := ?_) #[true, true, false, false, false] rfl rfl (by kernel_rfl) (fun _ _ _ h => h) (Or.inl ⟨by rfl, ?_⟩) hHeld ?_ ?_
    rotate_left
    ·rintro w' ⟨s0, s1, s2, s3, s4, s5⟩
     go_simp
     with_reducible rfl
    rotate_left
    ·simp only [Act.put, List.setIfInBounds_toArray, List.set_cons_zero, List.set_cons_succ, i64_w, i32_w]
     rfl
    refine one_ (i := 2) (N := some 54) #[true, true, true, false, false] rfl rfl (by kernel_rfl) (by decide) (fun K hK => ?_)
    refine goes_ Try.func17 (by kernel_rfl) rfl #[.agg #[.int .i64 a0_0, .int .i64 a0_1, .slice A0_2 l0_2.length c0_2]] (by rfl) rfl rfl (by (try simp only [List.map_toArray, List.map_cons, List.map_nil]); first | done | rfl | (simp only [List.length_drop, List.length_take]; rfl)) ?_
    with_reducible refine (laws_toBoard.calls kj21 a0_0 a0_1 _ _ l0_2 t1308 t1309 t1310 _ ?side1 ?side2 A49.out).mono ?_
    (case side1 => repeat (first | exact (Kd.C_below HR0_2.out HB.out) | (with_reducible refine Kd.C_alloc ?_ _) | (with_reducible refine Kd.C_drewN ?_ _) | (with_reducible refine Kd.C_drew ?_)))
    (case side2 => exact HC0_2.out)
    rintro e w68 ⟨v1311, rfl, ho0, hb⟩
    refine ⟨_, rfl, ?_⟩
    have n0_ := Aside0.mk (Kd.R_elder' (by (with_reducible repeat (first | apply Kd.R_alloc | apply Kd.R_drewN | apply Kd.R_drew)); exact HO_11.out) (Kd.R_base ho0) hb)
    have n1_ := Aside0.mk (Kd.R_elder' (by (with_reducible repeat (first | apply Kd.R_alloc | apply Kd.R_drewN | apply Kd.R_drew)); exact HO_1301002.out) (Kd.R_base ho0) hb)
    have n2_ := Aside0.mk (Kd.R_lower (Kd.R_new' (Kd.R_new' ho0 (Kd.R_lt (by (with_reducible repeat (first | apply Kd.R_alloc | apply Kd.R_drewN | apply Kd.R_drew)); exact HO_11.out))) (Kd.R_lt (by (with_reducible repeat (first | apply Kd.R_alloc | apply Kd.R_drewN | apply Kd.R_drew)); exact HO_1301002.out))) (below_size (by repeat (first | (with_reducible first | exact HB.out | apply below_alloc | apply pw_below_drewN | apply below_drew1 | refine below_set ?_ GE1280.out | refine below_set ?_ GE1281.out | refine below_set ?_ GE1300.out) | exact HB.out))))
    have n3_ := Aside0.mk (blk_below (g := gb1280) (o := .cells #[.int .i64 a0_0, .int .i64 a0_1, .slice A0_2 l0_2.length c0_2] 24 (0, 0)) (by (with_reducible repeat (first | refine blk_drewN ?_ _ | refine blk_drew ?_ | refine blk_alloc ?_ _)); exact BK1280.out) hb)
    have n4_ := Aside0.mk (blk_below (g := gb1281) (o := .cells #[.int .i64 a1_0, .int .i64 a1_1] 26 (0, 0)) (by (with_reducible repeat (first | refine blk_drewN ?_ _ | refine blk_drew ?_ | refine blk_alloc ?_ _)); exact BK1281.out) hb)
    have n5_ := Aside0.mk (blk_below (g := gb1300) (o := .cells #[.int .i64 t1295, .int .i64 t1296, .slice Ao41 t1297.length co41] 30 (0, 0)) (by (with_reducible repeat (first | refine blk_drewN ?_ _ | refine blk_drew ?_ | refine blk_alloc ?_ _)); exact BK1300.out) hb)
    have n6_ := Aside0.mk (below_step (by repeat (first | (with_reducible first | exact HB.out | apply below_alloc | apply pw_below_drewN | apply below_drew1 | refine below_set ?_ GE1280.out | refine below_set ?_ GE1281.out | refine below_set ?_ GE1300.out) | exact HB.out)) hb)
    clear HO_11
    clear HO_1301002
    clear BK1280
    clear BK1281
    clear BK1300
    clear HB
    have HO_11 := n0_
    have HO_1301002 := n1_
    have HO1312 := n2_
    have BK1280 := n3_
    have BK1281 := n4_
    have BK1300 := n5_
    have HB := n6_
    clear n0_ n1_ n2_ n3_ n4_ n5_ n6_
    (try clear hb)
    (try clear hb2)
    (try clear hk)
    (try clear hi)
    (try clear ho0)
    (try clear hna_)
    (try clear hnb_)
    obtain ⟨Ao69, co69, eo69⟩ := Kd.R_slice HO1312.out
    (first | subst eo69 | (injection eo69 with f1_ f2_ f3_; have f4_ := f1_.symm; have f5_ := f3_.symm; clear f1_ f2_ f3_; subst f4_; subst f5_))
    refine hK.out _ _ ⟨(blk_cell BK1300.out 0).trans rfl, (blk_cell BK1300.out 1).trans rfl, (blk_cell BK1300.out 2).trans rfl, (blk_cell BK1280.out 0).trans rfl, (blk_cell BK1280.out 1).trans rfl, (blk_cell BK1280.out 2).trans rfl⟩ (fun hHeld => ?_)
    clear hK K
    refine norm_ (a' := ?_) ?_ ?_
    rotate_left
    ·show Act.put _ (some 54) _ = _
     simp only [Act.put, List.setIfInBounds_toArray, List.set_cons_zero, List.set_cons_succ, i64_w, i32_w]
     rfl
    refine one_ (i := 3) (N := some 55) #[true, true, true, true, false] rfl rfl (by kernel_rfl) (by decide) (fun K hK => ?_)
    refine goes_ Try.func21 (by kernel_rfl) rfl #[.agg #[.int .i64 t1295, .int .i64 t1296, .slice Ao41 t1297.length co41], .agg #[.int .i64 t1308, .int .i64 t1309, .slice Ao69 t1310.length co69]] (by rfl) rfl rfl (by (try simp only [List.map_toArray, List.map_cons, List.map_nil]); first | done | rfl | (simp only [List.length_drop, List.length_take]; rfl)) ?_
    with_reducible refine (laws_eqBoard.calls kj21 t1295 t1296 _ _ t1297 t1308 t1309 _ _ t1310 false _ ?side1 ?side2 ?side3 ?side4 A50.out).mono ?_
    (case side1 => repeat (first | exact (Kd.R_reads' HO_1301002.out).2.2 | (with_reducible refine Kd.C_alloc ?_ _) | (with_reducible refine Kd.C_drewN ?_ _) | (with_reducible refine Kd.C_drew ?_)))
    (case side2 => exact (Kd.R_reads' HO_1301002.out).2.1)
    (case side3 => repeat (first | exact (Kd.R_reads' HO1312.out).2.2 | (with_reducible refine Kd.C_alloc ?_ _) | (with_reducible refine Kd.C_drewN ?_ _) | (with_reducible refine Kd.C_drew ?_)))
    (case side4 => exact (Kd.R_reads' HO1312.out).2.1)
    rintro e w70 ⟨rfl, hb⟩
    refine ⟨_, rfl, ?_⟩
    have n0_ := Aside0.mk (Kd.R_below (by (with_reducible repeat (first | apply Kd.R_alloc | apply Kd.R_drewN | apply Kd.R_drew)); exact HO_11.out) hb)
    have n1_ := Aside0.mk (Kd.R_below (by (with_reducible repeat (first | apply Kd.R_alloc | apply Kd.R_drewN | apply Kd.R_drew)); exact HO_1301002.out) hb)
    have n2_ := Aside0.mk (Kd.R_below (by (with_reducible repeat (first | apply Kd.R_alloc | apply Kd.R_drewN | apply Kd.R_drew)); exact HO1312.out) hb)
    have n3_ := Aside0.mk (blk_below (g := gb1280) (o := .cells #[.int .i64 a0_0, .int .i64 a0_1, .slice A0_2 l0_2.length c0_2] 24 (0, 0)) (by (with_reducible repeat (first | refine blk_drewN ?_ _ | refine blk_drew ?_ | refine blk_alloc ?_ _)); exact BK1280.out) hb)
    have n4_ := Aside0.mk (blk_below (g := gb1281) (o := .cells #[.int .i64 a1_0, .int .i64 a1_1] 26 (0, 0)) (by (with_reducible repeat (first | refine blk_drewN ?_ _ | refine blk_drew ?_ | refine blk_alloc ?_ _)); exact BK1281.out) hb)
    have n5_ := Aside0.mk (blk_below (g := gb1300) (o := .cells #[.int .i64 t1295, .int .i64 t1296, .slice Ao41 t1297.length co41] 30 (0, 0)) (by (with_reducible repeat (first | refine blk_drewN ?_ _ | refine blk_drew ?_ | refine blk_alloc ?_ _)); exact BK1300.out) hb)
    have n6_ := Aside0.mk (below_step (by repeat (first | (with_reducible first | exact HB.out | apply below_alloc | apply pw_below_drewN | apply below_drew1 | refine below_set ?_ GE1280.out | refine below_set ?_ GE1281.out | refine below_set ?_ GE1300.out) | exact HB.out)) hb)
    clear HO_11
    clear HO_1301002
    clear HO1312
    clear BK1280
    clear BK1281
    clear BK1300
    clear HB
    have HO_11 := n0_
    have HO_1301002 := n1_
    have HO1312 := n2_
    have BK1280 := n3_
    have BK1281 := n4_
    have BK1300 := n5_
    have HB := n6_
    clear n0_ n1_ n2_ n3_ n4_ n5_ n6_
    (try clear hb)
    (try clear hb2)
    (try clear hk)
    (try clear hi)
    (try clear hna_)
    (try clear hnb_)
    refine hK.out _ _ ⟨(blk_cell BK1300.out 0).trans rfl, (blk_cell BK1300.out 1).trans rfl, (blk_cell BK1300.out 2).trans rfl, (blk_cell BK1280.out 0).trans rfl, (blk_cell BK1280.out 1).trans rfl, (blk_cell BK1280.out 2).trans rfl⟩ (fun hHeld => ?_)
    clear hK K
    refine norm_ (a' := ?_) ?_ ?_
    rotate_left
    ·show Act.put _ (some 55) _ = _
     simp only [Act.put, List.setIfInBounds_toArray, List.set_cons_zero, List.set_cons_succ, i64_w, i32_w]
     rfl
    refine pure_ (i := 4) (N := some 56) (v := ?_) (a' := ?_) #[true, true, true, true, true] rfl rfl (by kernel_rfl) (fun _ _ _ h => h) (Or.inl ⟨by rfl, ?_⟩) ?_ ?_
    rotate_left
    ·intro w'
     go_simp
     with_reducible rfl
    rotate_left
    ·simp only [Act.put, List.setIfInBounds_toArray, List.set_cons_zero, List.set_cons_succ, i64_w, i32_w]
     rfl
    refine done_ (by kernel_rfl) ?_
    try go_wp2
    go_ret
    exact ⟨by first | rfl | (simp [errW_none, errW_some] <;> rfl) | (simp [*, errW_none, errW_some] <;> rfl), by repeat (first | (with_reducible first | exact HB.out | apply below_alloc | apply pw_below_drewN | apply below_drew1 | refine below_set ?_ GE1280.out | refine below_set ?_ GE1281.out | refine below_set ?_ GE1300.out) | exact HB.out)⟩
   subst c51
   have H1 : ((laws_toIntS.f kj21 l2).bind fun t1314 => ((laws_eqIntS.f kj21 t1301 t1314).bind fun t1317 => (if t1317 = true then (some true) else (some false)))) = some r := by rw [if_pos rfl] at H; exact H
   clear H
   have H := H1
   clear H1
   replace H := Option.bind_eq_some_iff.mp H
   obtain ⟨t1314, A520, H⟩ := H
   replace H : ((laws_eqIntS.f kj21 t1301 t1314).bind fun t1317 => (if t1317 = true then (some true) else (some false))) = some r := H
   have A52 := Aside0.mk A520
   clear A520
   replace H := Option.bind_eq_some_iff.mp H
   obtain ⟨t1317, A530, H⟩ := H
   replace H : (if t1317 = true then (some true) else (some false)) = some r := H
   have A53 := Aside0.mk A530
   clear A530
   by_cases c54 : t1317 = true
   ·subst c54
    have H1 : (some true) = some r := by rw [if_pos rfl] at H; exact H
    clear H
    have H := H1
    clear H1
    obtain rfl := Option.some.inj H
    try go_wp2
    have n0_ := Aside0.mk (Kd.R_drew HO_11.out)
    have n1_ := Aside0.mk (Kd.R_drew HO_1301002.out)
    have n2_ := Aside0.mk (blk_drew BK1280.out)
    have n3_ := Aside0.mk (blk_drew BK1281.out)
    have n4_ := Aside0.mk (blk_drew BK1300.out)
    have n5_ := Aside0.mk (below_drew1 HB.out)
    clear HO_11
    clear HO_1301002
    clear BK1280
    clear BK1281
    clear BK1300
    clear HB
    have HO_11 := n0_
    have HO_1301002 := n1_
    have BK1280 := n2_
    have BK1281 := n3_
    have BK1300 := n4_
    have HB := n5_
    clear n0_ n1_ n2_ n3_ n4_ n5_
    refine start_ (n := 5) (S := fun w' => w'.cell? ⟨gb1300, 0, none⟩ = some (.int .i64 t1295) ∧ w'.cell? ⟨gb1300, 1, none⟩ = some (.int .i64 t1296) ∧ w'.cell? ⟨gb1300, 2, none⟩ = some (.slice Ao41 t1297.length co41) ∧ w'.cell? ⟨gb1280, 0, none⟩ = some (.int .i64 a0_0) ∧ w'.cell? ⟨gb1280, 1, none⟩ = some (.int .i64 a0_1) ∧ w'.cell? ⟨gb1280, 2, none⟩ = some (.slice A0_2 l0_2.length c0_2)) (ds := []) #[false, false, false, false, false] (by kernel_rfl) rfl rfl ⟨(blk_cell BK1300.out 0).trans rfl, (blk_cell BK1300.out 1).trans rfl, (blk_cell BK1300.out 2).trans rfl, (blk_cell BK1280.out 0).trans rfl, (blk_cell BK1280.out 1).trans rfl, (blk_cell BK1280.out 2).trans rfl⟩ (fun hHeld => ?_)
    generalize wc.drew = w55 at HO_11 HO_1301002 BK1280 BK1281 BK1300 HB hHeld ⊢
    refine take_ (i := 0) (N := some 52) (v := ?_) (a' := ?_) #[true, false, false, false, false] rfl rfl (by kernel_rfl) (fun _ _ _ h => h) (Or.inl ⟨by rfl, ?_⟩) hHeld ?_ ?_
    rotate_left
    ·rintro w' ⟨s0, s1, s2, s3, s4, s5⟩
     go_simp
     with_reducible rfl
    rotate_left
    ·simp only [Act.put, List.setIfInBounds_toArray, List.set_cons_zero, List.set_cons_succ, i64_w, i32_w]
     rfl
    refine take_ (i := 1) (N := some 53) (v := ?_) (a' := ?_) #[true, true, false, false, false] rfl rfl (by kernel_rfl) (fun _ _ _ h => h) (Or.inl ⟨by rfl, ?_⟩) hHeld ?_ ?_
    rotate_left
    ·rintro w' ⟨s0, s1, s2, s3, s4, s5⟩
     go_simp
     with_reducible rfl
    rotate_left
    ·simp only [Act.put, List.setIfInBounds_toArray, List.set_cons_zero, List.set_cons_succ, i64_w, i32_w]
     rfl
    refine one_ (i := 2) (N := some 54) #[true, true, true, false, false] rfl rfl (by kernel_rfl) (by decide) (fun K hK => ?_)
    refine goes_ Try.func17 (by kernel_rfl) rfl #[.agg #[.int .i64 a0_0, .int .i64 a0_1, .slice A0_2 l0_2.length c0_2]] (by rfl) rfl rfl (by (try simp only [List.map_toArray, List.map_cons, List.map_nil]); first | done | rfl | (simp only [List.length_drop, List.length_take]; rfl)) ?_
    with_reducible refine (laws_toBoard.calls kj21 a0_0 a0_1 _ _ l0_2 t1308 t1309 t1310 _ ?side1 ?side2 A49.out).mono ?_
    (case side1 => repeat (first | exact (Kd.C_below HR0_2.out HB.out) | (with_reducible refine Kd.C_alloc ?_ _) | (with_reducible refine Kd.C_drewN ?_ _) | (with_reducible refine Kd.C_drew ?_)))
    (case side2 => exact HC0_2.out)
    rintro e w56 ⟨v1311, rfl, ho0, hb⟩
    refine ⟨_, rfl, ?_⟩
    have n0_ := Aside0.mk (Kd.R_elder' (by (with_reducible repeat (first | apply Kd.R_alloc | apply Kd.R_drewN | apply Kd.R_drew)); exact HO_11.out) (Kd.R_base ho0) hb)
    have n1_ := Aside0.mk (Kd.R_elder' (by (with_reducible repeat (first | apply Kd.R_alloc | apply Kd.R_drewN | apply Kd.R_drew)); exact HO_1301002.out) (Kd.R_base ho0) hb)
    have n2_ := Aside0.mk (Kd.R_lower (Kd.R_new' (Kd.R_new' ho0 (Kd.R_lt (by (with_reducible repeat (first | apply Kd.R_alloc | apply Kd.R_drewN | apply Kd.R_drew)); exact HO_11.out))) (Kd.R_lt (by (with_reducible repeat (first | apply Kd.R_alloc | apply Kd.R_drewN | apply Kd.R_drew)); exact HO_1301002.out))) (below_size (by repeat (first | (with_reducible first | exact HB.out | apply below_alloc | apply pw_below_drewN | apply below_drew1 | refine below_set ?_ GE1280.out | refine below_set ?_ GE1281.out | refine below_set ?_ GE1300.out) | exact HB.out))))
    have n3_ := Aside0.mk (blk_below (g := gb1280) (o := .cells #[.int .i64 a0_0, .int .i64 a0_1, .slice A0_2 l0_2.length c0_2] 24 (0, 0)) (by (with_reducible repeat (first | refine blk_drewN ?_ _ | refine blk_drew ?_ | refine blk_alloc ?_ _)); exact BK1280.out) hb)
    have n4_ := Aside0.mk (blk_below (g := gb1281) (o := .cells #[.int .i64 a1_0, .int .i64 a1_1] 26 (0, 0)) (by (with_reducible repeat (first | refine blk_drewN ?_ _ | refine blk_drew ?_ | refine blk_alloc ?_ _)); exact BK1281.out) hb)
    have n5_ := Aside0.mk (blk_below (g := gb1300) (o := .cells #[.int .i64 t1295, .int .i64 t1296, .slice Ao41 t1297.length co41] 30 (0, 0)) (by (with_reducible repeat (first | refine blk_drewN ?_ _ | refine blk_drew ?_ | refine blk_alloc ?_ _)); exact BK1300.out) hb)
    have n6_ := Aside0.mk (below_step (by repeat (first | (with_reducible first | exact HB.out | apply below_alloc | apply pw_below_drewN | apply below_drew1 | refine below_set ?_ GE1280.out | refine below_set ?_ GE1281.out | refine below_set ?_ GE1300.out) | exact HB.out)) hb)
    clear HO_11
    clear HO_1301002
    clear BK1280
    clear BK1281
    clear BK1300
    clear HB
    have HO_11 := n0_
    have HO_1301002 := n1_
    have HO1312 := n2_
    have BK1280 := n3_
    have BK1281 := n4_
    have BK1300 := n5_
    have HB := n6_
    clear n0_ n1_ n2_ n3_ n4_ n5_ n6_
    (try clear hb)
    (try clear hb2)
    (try clear hk)
    (try clear hi)
    (try clear ho0)
    (try clear hna_)
    (try clear hnb_)
    obtain ⟨Ao57, co57, eo57⟩ := Kd.R_slice HO1312.out
    (first | subst eo57 | (injection eo57 with f1_ f2_ f3_; have f4_ := f1_.symm; have f5_ := f3_.symm; clear f1_ f2_ f3_; subst f4_; subst f5_))
    refine hK.out _ _ ⟨(blk_cell BK1300.out 0).trans rfl, (blk_cell BK1300.out 1).trans rfl, (blk_cell BK1300.out 2).trans rfl, (blk_cell BK1280.out 0).trans rfl, (blk_cell BK1280.out 1).trans rfl, (blk_cell BK1280.out 2).trans rfl⟩ (fun hHeld => ?_)
    clear hK K
    refine norm_ (a' := ?_) ?_ ?_
    rotate_left
    ·show Act.put _ (some 54) _ = _
     simp only [Act.put, List.setIfInBounds_toArray, List.set_cons_zero, List.set_cons_succ, i64_w, i32_w]
     rfl
    refine one_ (i := 3) (N := some 55) #[true, true, true, true, false] rfl rfl (by kernel_rfl) (by decide) (fun K hK => ?_)
    refine goes_ Try.func21 (by kernel_rfl) rfl #[.agg #[.int .i64 t1295, .int .i64 t1296, .slice Ao41 t1297.length co41], .agg #[.int .i64 t1308, .int .i64 t1309, .slice Ao57 t1310.length co57]] (by rfl) rfl rfl (by (try simp only [List.map_toArray, List.map_cons, List.map_nil]); first | done | rfl | (simp only [List.length_drop, List.length_take]; rfl)) ?_
    with_reducible refine (laws_eqBoard.calls kj21 t1295 t1296 _ _ t1297 t1308 t1309 _ _ t1310 true _ ?side1 ?side2 ?side3 ?side4 A50.out).mono ?_
    (case side1 => repeat (first | exact (Kd.R_reads' HO_1301002.out).2.2 | (with_reducible refine Kd.C_alloc ?_ _) | (with_reducible refine Kd.C_drewN ?_ _) | (with_reducible refine Kd.C_drew ?_)))
    (case side2 => exact (Kd.R_reads' HO_1301002.out).2.1)
    (case side3 => repeat (first | exact (Kd.R_reads' HO1312.out).2.2 | (with_reducible refine Kd.C_alloc ?_ _) | (with_reducible refine Kd.C_drewN ?_ _) | (with_reducible refine Kd.C_drew ?_)))
    (case side4 => exact (Kd.R_reads' HO1312.out).2.1)
    rintro e w58 ⟨rfl, hb⟩
    refine ⟨_, rfl, ?_⟩
    have n0_ := Aside0.mk (Kd.R_below (by (with_reducible repeat (first | apply Kd.R_alloc | apply Kd.R_drewN | apply Kd.R_drew)); exact HO_11.out) hb)
    have n1_ := Aside0.mk (Kd.R_below (by (with_reducible repeat (first | apply Kd.R_alloc | apply Kd.R_drewN | apply Kd.R_drew)); exact HO_1301002.out) hb)
    have n2_ := Aside0.mk (Kd.R_below (by (with_reducible repeat (first | apply Kd.R_alloc | apply Kd.R_drewN | apply Kd.R_drew)); exact HO1312.out) hb)
    have n3_ := Aside0.mk (blk_below (g := gb1280) (o := .cells #[.int .i64 a0_0, .int .i64 a0_1, .slice A0_2 l0_2.length c0_2] 24 (0, 0)) (by (with_reducible repeat (first | refine blk_drewN ?_ _ | refine blk_drew ?_ | refine blk_alloc ?_ _)); exact BK1280.out) hb)
    have n4_ := Aside0.mk (blk_below (g := gb1281) (o := .cells #[.int .i64 a1_0, .int .i64 a1_1] 26 (0, 0)) (by (with_reducible repeat (first | refine blk_drewN ?_ _ | refine blk_drew ?_ | refine blk_alloc ?_ _)); exact BK1281.out) hb)
    have n5_ := Aside0.mk (blk_below (g := gb1300) (o := .cells #[.int .i64 t1295, .int .i64 t1296, .slice Ao41 t1297.length co41] 30 (0, 0)) (by (with_reducible repeat (first | refine blk_drewN ?_ _ | refine blk_drew ?_ | refine blk_alloc ?_ _)); exact BK1300.out) hb)
    have n6_ := Aside0.mk (below_step (by repeat (first | (with_reducible first | exact HB.out | apply below_alloc | apply pw_below_drewN | apply below_drew1 | refine below_set ?_ GE1280.out | refine below_set ?_ GE1281.out | refine below_set ?_ GE1300.out) | exact HB.out)) hb)
    clear HO_11
    clear HO_1301002
    clear HO1312
    clear BK1280
    clear BK1281
    clear BK1300
    clear HB
    have HO_11 := n0_
    have HO_1301002 := n1_
    have HO1312 := n2_
    have BK1280 := n3_
    have BK1281 := n4_
    have BK1300 := n5_
    have HB := n6_
    clear n0_ n1_ n2_ n3_ n4_ n5_ n6_
    (try clear hb)
    (try clear hb2)
    (try clear hk)
    (try clear hi)
    (try clear hna_)
    (try clear hnb_)
    refine hK.out _ _ ⟨(blk_cell BK1300.out 0).trans rfl, (blk_cell BK1300.out 1).trans rfl, (blk_cell BK1300.out 2).trans rfl, (blk_cell BK1280.out 0).trans rfl, (blk_cell BK1280.out 1).trans rfl, (blk_cell BK1280.out 2).trans rfl⟩ (fun hHeld => ?_)
    clear hK K
    refine norm_ (a' := ?_) ?_ ?_
    rotate_left
    ·show Act.put _ (some 55) _ = _
     simp only [Act.put, List.setIfInBounds_toArray, List.set_cons_zero, List.set_cons_succ, i64_w, i32_w]
     rfl
    refine pure_ (i := 4) (N := some 56) (v := ?_) (a' := ?_) #[true, true, true, true, true] rfl rfl (by kernel_rfl) (fun _ _ _ h => h) (Or.inl ⟨by rfl, ?_⟩) ?_ ?_
    rotate_left
    ·intro w'
     go_simp
     with_reducible rfl
    rotate_left
    ·simp only [Act.put, List.setIfInBounds_toArray, List.set_cons_zero, List.set_cons_succ, i64_w, i32_w]
     rfl
    refine done_ (by kernel_rfl) ?_
    try go_wp2_with (first | ((with_reducible refine gate_callee (f := 26) rfl ?_); refine goesL_ (some 59) rfl rfl Try.func26 (by kernel_rfl) rfl #[.slice A2 l2.length c2] rfl (by (try simp only [List.map_toArray, List.map_cons, List.map_nil]); first | done | rfl | (simp only [List.length_drop, List.length_take]; rfl)) ?_; (with_reducible refine (laws_toIntS.calls kj21 _ _ l2 t1314 _ ?side1 ?side2 A52.out).mono ?_); (case side1 => repeat (first | exact (Kd.C_below HR2.out HB.out) | (with_reducible refine Kd.C_alloc ?_ _) | (with_reducible refine Kd.C_drewN ?_ _) | (with_reducible refine Kd.C_drew ?_))); (case side2 => exact HC2.out); rintro e w59 ⟨v1315, rfl, ho0, hb⟩; refine ⟨_, rfl, ?_⟩; have n0_ := Aside0.mk (Kd.R_elder' (by (with_reducible repeat (first | apply Kd.R_alloc | apply Kd.R_drewN | apply Kd.R_drew)); exact HO_11.out) (Kd.R_base ho0) hb); have n1_ := Aside0.mk (Kd.R_elder' (by (with_reducible repeat (first | apply Kd.R_alloc | apply Kd.R_drewN | apply Kd.R_drew)); exact HO_1301002.out) (Kd.R_base ho0) hb); have n2_ := Aside0.mk (Kd.R_elder' (by (with_reducible repeat (first | apply Kd.R_alloc | apply Kd.R_drewN | apply Kd.R_drew)); exact HO1312.out) (Kd.R_base ho0) hb); have n3_ := Aside0.mk (Kd.R_lower (Kd.R_new' (Kd.R_new' (Kd.R_new' ho0 (Kd.R_lt (by (with_reducible repeat (first | apply Kd.R_alloc | apply Kd.R_drewN | apply Kd.R_drew)); exact HO_11.out))) (Kd.R_lt (by (with_reducible repeat (first | apply Kd.R_alloc | apply Kd.R_drewN | apply Kd.R_drew)); exact HO_1301002.out))) (Kd.R_lt (by (with_reducible repeat (first | apply Kd.R_alloc | apply Kd.R_drewN | apply Kd.R_drew)); exact HO1312.out))) (below_size (by repeat (first | (with_reducible first | exact HB.out | apply below_alloc | apply pw_below_drewN | apply below_drew1 | refine below_set ?_ GE1280.out | refine below_set ?_ GE1281.out | refine below_set ?_ GE1300.out) | exact HB.out)))); have n4_ := Aside0.mk (blk_below (g := gb1280) (o := .cells #[.int .i64 a0_0, .int .i64 a0_1, .slice A0_2 l0_2.length c0_2] 24 (0, 0)) (by (with_reducible repeat (first | refine blk_drewN ?_ _ | refine blk_drew ?_ | refine blk_alloc ?_ _)); exact BK1280.out) hb); have n5_ := Aside0.mk (blk_below (g := gb1281) (o := .cells #[.int .i64 a1_0, .int .i64 a1_1] 26 (0, 0)) (by (with_reducible repeat (first | refine blk_drewN ?_ _ | refine blk_drew ?_ | refine blk_alloc ?_ _)); exact BK1281.out) hb); have n6_ := Aside0.mk (blk_below (g := gb1300) (o := .cells #[.int .i64 t1295, .int .i64 t1296, .slice Ao41 t1297.length co41] 30 (0, 0)) (by (with_reducible repeat (first | refine blk_drewN ?_ _ | refine blk_drew ?_ | refine blk_alloc ?_ _)); exact BK1300.out) hb); have n7_ := Aside0.mk (below_step (by repeat (first | (with_reducible first | exact HB.out | apply below_alloc | apply pw_below_drewN | apply below_drew1 | refine below_set ?_ GE1280.out | refine below_set ?_ GE1281.out | refine below_set ?_ GE1300.out) | exact HB.out)) hb); clear HO_11; clear HO_1301002; clear HO1312; clear BK1280; clear BK1281; clear BK1300; clear HB; have HO_11 := n0_; have HO_1301002 := n1_; have HO1312 := n2_; have HO1316 := n3_; have BK1280 := n4_; have BK1281 := n5_; have BK1300 := n6_; have HB := n7_; clear n0_ n1_ n2_ n3_ n4_ n5_ n6_ n7_; (try clear hb); (try clear hb2); (try clear hk); (try clear hi); (try clear ho0); (try clear hna_); (try clear hnb_); obtain ⟨Ao60, co60, eo60⟩ := Kd.R_slice HO1316.out; subst eo60) | ((with_reducible refine gate_callee (f := 20) rfl ?_); refine goesL_ (some 60) rfl rfl Try.func20 (by kernel_rfl) rfl #[.slice Ao45 t1301.length co45, .slice Ao60 t1314.length co60] rfl (by (try simp only [List.map_toArray, List.map_cons, List.map_nil]); first | done | rfl | (simp only [List.length_drop, List.length_take]; rfl)) ?_; (with_reducible refine (laws_eqIntS.calls kj21 _ _ t1301 _ _ t1314 true _ ?side1 ?side2 ?side3 ?side4 A53.out).mono ?_); (case side1 => repeat (first | exact (Kd.R_reads' HO_11.out).2.2 | (with_reducible refine Kd.C_alloc ?_ _) | (with_reducible refine Kd.C_drewN ?_ _) | (with_reducible refine Kd.C_drew ?_))); (case side2 => exact (Kd.R_reads' HO_11.out).2.1); (case side3 => repeat (first | exact (Kd.R_reads' HO1316.out).2.2 | (with_reducible refine Kd.C_alloc ?_ _) | (with_reducible refine Kd.C_drewN ?_ _) | (with_reducible refine Kd.C_drew ?_))); (case side4 => exact (Kd.R_reads' HO1316.out).2.1); rintro e w' ⟨rfl, ⟨nd, rfl⟩⟩; refine ⟨_, rfl, ?_⟩))
    go_ret
    exact ⟨by first | rfl | (simp [errW_none, errW_some] <;> rfl) | (simp [*, errW_none, errW_some] <;> rfl), by repeat (first | (with_reducible first | exact HB.out | apply below_alloc | apply pw_below_drewN | apply below_drew1 | refine below_set ?_ GE1280.out | refine below_set ?_ GE1281.out | refine below_set ?_ GE1300.out) | exact HB.out)⟩
   replace c54 := Bool.eq_false_iff.mpr c54
   subst c54
   have H1 : (some false) = some r := by rw [if_neg (show ¬ (false = true) by decide)] at H; exact H
   clear H
   have H := H1
   clear H1
   obtain rfl := Option.some.inj H
   try go_wp2
   have n0_ := Aside0.mk (Kd.R_drew HO_11.out)
   have n1_ := Aside0.mk (Kd.R_drew HO_1301002.out)
   have n2_ := Aside0.mk (blk_drew BK1280.out)
   have n3_ := Aside0.mk (blk_drew BK1281.out)
   have n4_ := Aside0.mk (blk_drew BK1300.out)
   have n5_ := Aside0.mk (below_drew1 HB.out)
   clear HO_11
   clear HO_1301002
   clear BK1280
   clear BK1281
   clear BK1300
   clear HB
   have HO_11 := n0_
   have HO_1301002 := n1_
   have BK1280 := n2_
   have BK1281 := n3_
   have BK1300 := n4_
   have HB := n5_
   clear n0_ n1_ n2_ n3_ n4_ n5_
   refine start_ (n := 5) (S := fun w' => w'.cell? ⟨gb1300, 0, none⟩ = some (.int .i64 t1295) ∧ w'.cell? ⟨gb1300, 1, none⟩ = some (.int .i64 t1296) ∧ w'.cell? ⟨gb1300, 2, none⟩ = some (.slice Ao41 t1297.length co41) ∧ w'.cell? ⟨gb1280, 0, none⟩ = some (.int .i64 a0_0) ∧ w'.cell? ⟨gb1280, 1, none⟩ = some (.int .i64 a0_1) ∧ w'.cell? ⟨gb1280, 2, none⟩ = some (.slice A0_2 l0_2.length c0_2)) (ds := []) #[false, false, false, false, false] (by kernel_rfl) rfl rfl ⟨(blk_cell BK1300.out 0).trans rfl, (blk_cell BK1300.out 1).trans rfl, (blk_cell BK1300.out 2).trans rfl, (blk_cell BK1280.out 0).trans rfl, (blk_cell BK1280.out 1).trans rfl, (blk_cell BK1280.out 2).trans rfl⟩ (fun hHeld => ?_)
   generalize wc.drew = w61 at HO_11 HO_1301002 BK1280 BK1281 BK1300 HB hHeld ⊢
   refine take_ (i := 0) (N := some 52) (v := ?_) (a' := ?_) #[true, false, false, false, false] rfl rfl (by kernel_rfl) (fun _ _ _ h => h) (Or.inl ⟨by rfl, ?_⟩) hHeld ?_ ?_
   rotate_left
   ·rintro w' ⟨s0, s1, s2, s3, s4, s5⟩
    go_simp
    with_reducible rfl
   rotate_left
   ·simp only [Act.put, List.setIfInBounds_toArray, List.set_cons_zero, List.set_cons_succ, i64_w, i32_w]
    rfl
   refine take_ (i := 1) (N := some 53) (v := ?_) (a' := ?_) #[true, true, false, false, false] rfl rfl (by kernel_rfl) (fun _ _ _ h => h) (Or.inl ⟨by rfl, ?_⟩) hHeld ?_ ?_
   rotate_left
   ·rintro w' ⟨s0, s1, s2, s3, s4, s5⟩
    go_simp
    with_reducible rfl
   rotate_left
   ·simp only [Act.put, List.setIfInBounds_toArray, List.set_cons_zero, List.set_cons_succ, i64_w, i32_w]
    rfl
   refine one_ (i := 2) (N := some 54) #[true, true, true, false, false] rfl rfl (by kernel_rfl) (by decide) (fun K hK => ?_)
   refine goes_ Try.func17 (by kernel_rfl) rfl #[.agg #[.int .i64 a0_0, .int .i64 a0_1, .slice A0_2 l0_2.length c0_2]] (by rfl) rfl rfl (by (try simp only [List.map_toArray, List.map_cons, List.map_nil]); first | done | rfl | (simp only [List.length_drop, List.length_take]; rfl)) ?_
   with_reducible refine (laws_toBoard.calls kj21 a0_0 a0_1 _ _ l0_2 t1308 t1309 t1310 _ ?side1 ?side2 A49.out).mono ?_
   (case side1 => repeat (first | exact (Kd.C_below HR0_2.out HB.out) | (with_reducible refine Kd.C_alloc ?_ _) | (with_reducible refine Kd.C_drewN ?_ _) | (with_reducible refine Kd.C_drew ?_)))
   (case side2 => exact HC0_2.out)
   rintro e w62 ⟨v1311, rfl, ho0, hb⟩
   refine ⟨_, rfl, ?_⟩
   have n0_ := Aside0.mk (Kd.R_elder' (by (with_reducible repeat (first | apply Kd.R_alloc | apply Kd.R_drewN | apply Kd.R_drew)); exact HO_11.out) (Kd.R_base ho0) hb)
   have n1_ := Aside0.mk (Kd.R_elder' (by (with_reducible repeat (first | apply Kd.R_alloc | apply Kd.R_drewN | apply Kd.R_drew)); exact HO_1301002.out) (Kd.R_base ho0) hb)
   have n2_ := Aside0.mk (Kd.R_lower (Kd.R_new' (Kd.R_new' ho0 (Kd.R_lt (by (with_reducible repeat (first | apply Kd.R_alloc | apply Kd.R_drewN | apply Kd.R_drew)); exact HO_11.out))) (Kd.R_lt (by (with_reducible repeat (first | apply Kd.R_alloc | apply Kd.R_drewN | apply Kd.R_drew)); exact HO_1301002.out))) (below_size (by repeat (first | (with_reducible first | exact HB.out | apply below_alloc | apply pw_below_drewN | apply below_drew1 | refine below_set ?_ GE1280.out | refine below_set ?_ GE1281.out | refine below_set ?_ GE1300.out) | exact HB.out))))
   have n3_ := Aside0.mk (blk_below (g := gb1280) (o := .cells #[.int .i64 a0_0, .int .i64 a0_1, .slice A0_2 l0_2.length c0_2] 24 (0, 0)) (by (with_reducible repeat (first | refine blk_drewN ?_ _ | refine blk_drew ?_ | refine blk_alloc ?_ _)); exact BK1280.out) hb)
   have n4_ := Aside0.mk (blk_below (g := gb1281) (o := .cells #[.int .i64 a1_0, .int .i64 a1_1] 26 (0, 0)) (by (with_reducible repeat (first | refine blk_drewN ?_ _ | refine blk_drew ?_ | refine blk_alloc ?_ _)); exact BK1281.out) hb)
   have n5_ := Aside0.mk (blk_below (g := gb1300) (o := .cells #[.int .i64 t1295, .int .i64 t1296, .slice Ao41 t1297.length co41] 30 (0, 0)) (by (with_reducible repeat (first | refine blk_drewN ?_ _ | refine blk_drew ?_ | refine blk_alloc ?_ _)); exact BK1300.out) hb)
   have n6_ := Aside0.mk (below_step (by repeat (first | (with_reducible first | exact HB.out | apply below_alloc | apply pw_below_drewN | apply below_drew1 | refine below_set ?_ GE1280.out | refine below_set ?_ GE1281.out | refine below_set ?_ GE1300.out) | exact HB.out)) hb)
   clear HO_11
   clear HO_1301002
   clear BK1280
   clear BK1281
   clear BK1300
   clear HB
   have HO_11 := n0_
   have HO_1301002 := n1_
   have HO1312 := n2_
   have BK1280 := n3_
   have BK1281 := n4_
   have BK1300 := n5_
   have HB := n6_
   clear n0_ n1_ n2_ n3_ n4_ n5_ n6_
   (try clear hb)
   (try clear hb2)
   (try clear hk)
   (try clear hi)
   (try clear ho0)
   (try clear hna_)
   (try clear hnb_)
   obtain ⟨Ao63, co63, eo63⟩ := Kd.R_slice HO1312.out
   (first | subst eo63 | (injection eo63 with f1_ f2_ f3_; have f4_ := f1_.symm; have f5_ := f3_.symm; clear f1_ f2_ f3_; subst f4_; subst f5_))
   refine hK.out _ _ ⟨(blk_cell BK1300.out 0).trans rfl, (blk_cell BK1300.out 1).trans rfl, (blk_cell BK1300.out 2).trans rfl, (blk_cell BK1280.out 0).trans rfl, (blk_cell BK1280.out 1).trans rfl, (blk_cell BK1280.out 2).trans rfl⟩ (fun hHeld => ?_)
   clear hK K
   refine norm_ (a' := ?_) ?_ ?_
   rotate_left
   ·show Act.put _ (some 54) _ = _
    simp only [Act.put, List.setIfInBounds_toArray, List.set_cons_zero, List.set_cons_succ, i64_w, i32_w]
    rfl
   refine one_ (i := 3) (N := some 55) #[true, true, true, true, false] rfl rfl (by kernel_rfl) (by decide) (fun K hK => ?_)
   refine goes_ Try.func21 (by kernel_rfl) rfl #[.agg #[.int .i64 t1295, .int .i64 t1296, .slice Ao41 t1297.length co41], .agg #[.int .i64 t1308, .int .i64 t1309, .slice Ao63 t1310.length co63]] (by rfl) rfl rfl (by (try simp only [List.map_toArray, List.map_cons, List.map_nil]); first | done | rfl | (simp only [List.length_drop, List.length_take]; rfl)) ?_
   with_reducible refine (laws_eqBoard.calls kj21 t1295 t1296 _ _ t1297 t1308 t1309 _ _ t1310 true _ ?side1 ?side2 ?side3 ?side4 A50.out).mono ?_
   (case side1 => repeat (first | exact (Kd.R_reads' HO_1301002.out).2.2 | (with_reducible refine Kd.C_alloc ?_ _) | (with_reducible refine Kd.C_drewN ?_ _) | (with_reducible refine Kd.C_drew ?_)))
   (case side2 => exact (Kd.R_reads' HO_1301002.out).2.1)
   (case side3 => repeat (first | exact (Kd.R_reads' HO1312.out).2.2 | (with_reducible refine Kd.C_alloc ?_ _) | (with_reducible refine Kd.C_drewN ?_ _) | (with_reducible refine Kd.C_drew ?_)))
   (case side4 => exact (Kd.R_reads' HO1312.out).2.1)
   rintro e w64 ⟨rfl, hb⟩
   refine ⟨_, rfl, ?_⟩
   have n0_ := Aside0.mk (Kd.R_below (by (with_reducible repeat (first | apply Kd.R_alloc | apply Kd.R_drewN | apply Kd.R_drew)); exact HO_11.out) hb)
   have n1_ := Aside0.mk (Kd.R_below (by (with_reducible repeat (first | apply Kd.R_alloc | apply Kd.R_drewN | apply Kd.R_drew)); exact HO_1301002.out) hb)
   have n2_ := Aside0.mk (Kd.R_below (by (with_reducible repeat (first | apply Kd.R_alloc | apply Kd.R_drewN | apply Kd.R_drew)); exact HO1312.out) hb)
   have n3_ := Aside0.mk (blk_below (g := gb1280) (o := .cells #[.int .i64 a0_0, .int .i64 a0_1, .slice A0_2 l0_2.length c0_2] 24 (0, 0)) (by (with_reducible repeat (first | refine blk_drewN ?_ _ | refine blk_drew ?_ | refine blk_alloc ?_ _)); exact BK1280.out) hb)
   have n4_ := Aside0.mk (blk_below (g := gb1281) (o := .cells #[.int .i64 a1_0, .int .i64 a1_1] 26 (0, 0)) (by (with_reducible repeat (first | refine blk_drewN ?_ _ | refine blk_drew ?_ | refine blk_alloc ?_ _)); exact BK1281.out) hb)
   have n5_ := Aside0.mk (blk_below (g := gb1300) (o := .cells #[.int .i64 t1295, .int .i64 t1296, .slice Ao41 t1297.length co41] 30 (0, 0)) (by (with_reducible repeat (first | refine blk_drewN ?_ _ | refine blk_drew ?_ | refine blk_alloc ?_ _)); exact BK1300.out) hb)
   have n6_ := Aside0.mk (below_step (by repeat (first | (with_reducible first | exact HB.out | apply below_alloc | apply pw_below_drewN | apply below_drew1 | refine below_set ?_ GE1280.out | refine below_set ?_ GE1281.out | refine below_set ?_ GE1300.out) | exact HB.out)) hb)
   clear HO_11
   clear HO_1301002
   clear HO1312
   clear BK1280
   clear BK1281
   clear BK1300
   clear HB
   have HO_11 := n0_
   have HO_1301002 := n1_
   have HO1312 := n2_
   have BK1280 := n3_
   have BK1281 := n4_
   have BK1300 := n5_
   have HB := n6_
   clear n0_ n1_ n2_ n3_ n4_ n5_ n6_
   (try clear hb)
   (try clear hb2)
   (try clear hk)
   (try clear hi)
   (try clear hna_)
   (try clear hnb_)
   refine hK.out _ _ ⟨(blk_cell BK1300.out 0).trans rfl, (blk_cell BK1300.out 1).trans rfl, (blk_cell BK1300.out 2).trans rfl, (blk_cell BK1280.out 0).trans rfl, (blk_cell BK1280.out 1).trans rfl, (blk_cell BK1280.out 2).trans rfl⟩ (fun hHeld => ?_)
   clear hK K
   refine norm_ (a' := ?_) ?_ ?_
   rotate_left
   ·show Act.put _ (some 55) _ = _
    simp only [Act.put, List.setIfInBounds_toArray, List.set_cons_zero, List.set_cons_succ, i64_w, i32_w]
    rfl
   refine pure_ (i := 4) (N := some 56) (v := ?_) (a' := ?_) #[true, true, true, true, true] rfl rfl (by kernel_rfl) (fun _ _ _ h => h) (Or.inl ⟨by rfl, ?_⟩) ?_ ?_
   rotate_left
   ·intro w'
    go_simp
    with_reducible rfl
   rotate_left
   ·simp only [Act.put, List.setIfInBounds_toArray, List.set_cons_zero, List.set_cons_succ, i64_w, i32_w]
    rfl
   refine done_ (by kernel_rfl) ?_
   try go_wp2_with (first | ((with_reducible refine gate_callee (f := 26) rfl ?_); refine goesL_ (some 59) rfl rfl Try.func26 (by kernel_rfl) rfl #[.slice A2 l2.length c2] rfl (by (try simp only [List.map_toArray, List.map_cons, List.map_nil]); first | done | rfl | (simp only [List.length_drop, List.length_take]; rfl)) ?_; (with_reducible refine (laws_toIntS.calls kj21 _ _ l2 t1314 _ ?side1 ?side2 A52.out).mono ?_); (case side1 => repeat (first | exact (Kd.C_below HR2.out HB.out) | (with_reducible refine Kd.C_alloc ?_ _) | (with_reducible refine Kd.C_drewN ?_ _) | (with_reducible refine Kd.C_drew ?_))); (case side2 => exact HC2.out); rintro e w65 ⟨v1315, rfl, ho0, hb⟩; refine ⟨_, rfl, ?_⟩; have n0_ := Aside0.mk (Kd.R_elder' (by (with_reducible repeat (first | apply Kd.R_alloc | apply Kd.R_drewN | apply Kd.R_drew)); exact HO_11.out) (Kd.R_base ho0) hb); have n1_ := Aside0.mk (Kd.R_elder' (by (with_reducible repeat (first | apply Kd.R_alloc | apply Kd.R_drewN | apply Kd.R_drew)); exact HO_1301002.out) (Kd.R_base ho0) hb); have n2_ := Aside0.mk (Kd.R_elder' (by (with_reducible repeat (first | apply Kd.R_alloc | apply Kd.R_drewN | apply Kd.R_drew)); exact HO1312.out) (Kd.R_base ho0) hb); have n3_ := Aside0.mk (Kd.R_lower (Kd.R_new' (Kd.R_new' (Kd.R_new' ho0 (Kd.R_lt (by (with_reducible repeat (first | apply Kd.R_alloc | apply Kd.R_drewN | apply Kd.R_drew)); exact HO_11.out))) (Kd.R_lt (by (with_reducible repeat (first | apply Kd.R_alloc | apply Kd.R_drewN | apply Kd.R_drew)); exact HO_1301002.out))) (Kd.R_lt (by (with_reducible repeat (first | apply Kd.R_alloc | apply Kd.R_drewN | apply Kd.R_drew)); exact HO1312.out))) (below_size (by repeat (first | (with_reducible first | exact HB.out | apply below_alloc | apply pw_below_drewN | apply below_drew1 | refine below_set ?_ GE1280.out | refine below_set ?_ GE1281.out | refine below_set ?_ GE1300.out) | exact HB.out)))); have n4_ := Aside0.mk (blk_below (g := gb1280) (o := .cells #[.int .i64 a0_0, .int .i64 a0_1, .slice A0_2 l0_2.length c0_2] 24 (0, 0)) (by (with_reducible repeat (first | refine blk_drewN ?_ _ | refine blk_drew ?_ | refine blk_alloc ?_ _)); exact BK1280.out) hb); have n5_ := Aside0.mk (blk_below (g := gb1281) (o := .cells #[.int .i64 a1_0, .int .i64 a1_1] 26 (0, 0)) (by (with_reducible repeat (first | refine blk_drewN ?_ _ | refine blk_drew ?_ | refine blk_alloc ?_ _)); exact BK1281.out) hb); have n6_ := Aside0.mk (blk_below (g := gb1300) (o := .cells #[.int .i64 t1295, .int .i64 t1296, .slice Ao41 t1297.length co41] 30 (0, 0)) (by (with_reducible repeat (first | refine blk_drewN ?_ _ | refine blk_drew ?_ | refine blk_alloc ?_ _)); exact BK1300.out) hb); have n7_ := Aside0.mk (below_step (by repeat (first | (with_reducible first | exact HB.out | apply below_alloc | apply pw_below_drewN | apply below_drew1 | refine below_set ?_ GE1280.out | refine below_set ?_ GE1281.out | refine below_set ?_ GE1300.out) | exact HB.out)) hb); clear HO_11; clear HO_1301002; clear HO1312; clear BK1280; clear BK1281; clear BK1300; clear HB; have HO_11 := n0_; have HO_1301002 := n1_; have HO1312 := n2_; have HO1316 := n3_; have BK1280 := n4_; have BK1281 := n5_; have BK1300 := n6_; have HB := n7_; clear n0_ n1_ n2_ n3_ n4_ n5_ n6_ n7_; (try clear hb); (try clear hb2); (try clear hk); (try clear hi); (try clear ho0); (try clear hna_); (try clear hnb_); obtain ⟨Ao66, co66, eo66⟩ := Kd.R_slice HO1316.out; subst eo66) | ((with_reducible refine gate_callee (f := 20) rfl ?_); refine goesL_ (some 60) rfl rfl Try.func20 (by kernel_rfl) rfl #[.slice Ao45 t1301.length co45, .slice Ao66 t1314.length co66] rfl (by (try simp only [List.map_toArray, List.map_cons, List.map_nil]); first | done | rfl | (simp only [List.length_drop, List.length_take]; rfl)) ?_; (with_reducible refine (laws_eqIntS.calls kj21 _ _ t1301 _ _ t1314 false _ ?side1 ?side2 ?side3 ?side4 A53.out).mono ?_); (case side1 => repeat (first | exact (Kd.R_reads' HO_11.out).2.2 | (with_reducible refine Kd.C_alloc ?_ _) | (with_reducible refine Kd.C_drewN ?_ _) | (with_reducible refine Kd.C_drew ?_))); (case side2 => exact (Kd.R_reads' HO_11.out).2.1); (case side3 => repeat (first | exact (Kd.R_reads' HO1316.out).2.2 | (with_reducible refine Kd.C_alloc ?_ _) | (with_reducible refine Kd.C_drewN ?_ _) | (with_reducible refine Kd.C_drew ?_))); (case side4 => exact (Kd.R_reads' HO1316.out).2.1); rintro e w' ⟨rfl, ⟨nd, rfl⟩⟩; refine ⟨_, rfl, ?_⟩))
   go_ret
   exact ⟨by first | rfl | (simp [errW_none, errW_some] <;> rfl) | (simp [*, errW_none, errW_some] <;> rfl), by repeat (first | (with_reducible first | exact HB.out | apply below_alloc | apply pw_below_drewN | apply below_drew1 | refine below_set ?_ GE1280.out | refine below_set ?_ GE1281.out | refine below_set ?_ GE1300.out) | exact HB.out)⟩

end Go.Proofs.Ytekajjhjjnfdpaa.Q

/- Written by a program of this session: functions of the translation as plain Lean functions, each with a proof that the call does what the plain function says; the conditions stand in each theorem. -/
import Derived.Test.YtekajjhjjnfdpaaQ0
import Derived.Test.YtekajjhjjnfdpaaQ1
import Derived.Test.YtekajjhjjnfdpaaQ4
import Derived.Test.YtekajjhjjnfdpaaQ5
import Derived.Test.YtekajjhjjnfdpaaQ10
import Derived.Test.YtekajjhjjnfdpaaQ11
import Derived.Test.YtekajjhjjnfdpaaQ18
namespace Go.Proofs.Ytekajjhjjnfdpaa.Q
open Go.RowKit Go.Proofs.YtekajjhjjnfdpaaW.PrintWords Go.Proofs.YtekajjhjjnfdpaaW.PrintLast Go.Proofs.YtekajjhjjnfdpaaW.PrintMore
attribute [local go_sem] max2_int min2_int max_two min_two max_three min_three max_four min_four   -- for this text's walks alone
set_option linter.unusedVariables false
set_option linter.unusedSimpArgs false

/-! ### laws_FnExactDeadEnds: function 6 -/
mutual
def laws_FnExactDeadEnds.j0 : Nat → List Int → Bool → List Int → Bool → Bool → Int → Int → List Int → Int → Int → Int → Int → List Int → Option (Bool)
 | 0, _, _, _, _, _, _, _, _, _, _, _, _, _ => none
 | k + 1, x6, x7, x9, x10, x46, x499000, x499001, x499002, x500000, x500001, x518000, x518001, x518002 => if x46 = true then (some false) else ((laws_toBoard.f k x499000 x499001 x499002).bind fun bt525 => ((laws_eqBoard.f k x518000 x518001 x518002 bt525.1 bt525.2.1 bt525.2.2).bind fun t530 => (if t530 = true then ((laws_markBoard.f k x518000 x518001 x518002 1).bind fun bt531 => (if bt531.1 < 0 then (laws_FnExactDeadEnds.j1 k x6 x7 x9 true x499000 x499001 x499002 x500000 x500001) else ((laws_eqIntS.f k x9 x6).bind fun t533 => (if t533 = true then (laws_FnExactDeadEnds.j1 k x6 x7 x9 (x10 != x7) x499000 x499001 x499002 x500000 x500001) else (laws_FnExactDeadEnds.j1 k x6 x7 x9 true x499000 x499001 x499002 x500000 x500001))))) else (some false))))
def laws_FnExactDeadEnds.j1 : Nat → List Int → Bool → List Int → Bool → Int → Int → List Int → Int → Int → Option (Bool)
 | 0, _, _, _, _, _, _, _, _, _ => none
 | k + 1, x6, x7, x9, x67, x499000, x499001, x499002, x500000, x500001 => if x67 = true then (some false) else ((laws_markIntS.f k x9 1).bind fun bt534 => ((laws_heldIntS.f k bt534.2 1).bind fun t536 => (if t536 < 0 then (some false) else (if t536 = bt534.1 then ((laws_toBoard.f k x499000 x499001 x499002).bind fun bt537 => ((laws_toLeaper.f x500000 x500001).bind fun bt542 => ((impl_DeadEnds.f k bt537.1 bt537.2.1 bt537.2.2 bt542.1 bt542.2).bind fun bt544 => ((laws_eqIntS.f k bt544.1 x6).bind fun t548 => (if t548 = true then (laws_FnExactDeadEnds.j2 k bt534.2 bt534.1 (bt544.2 != x7)) else (laws_FnExactDeadEnds.j2 k bt534.2 bt534.1 true)))))) else (some false)))))
def laws_FnExactDeadEnds.j2 : Nat → List Int → Int → Bool → Option (Bool)
 | 0, _, _, _ => none
 | k + 1, x9, x12, x95 => if x95 = true then (some false) else ((laws_heldIntS.f k x9 1).bind fun t549 => (if t549 < 0 then (some false) else (if t549 = x12 then (some true) else (some false))))
end
def laws_FnExactDeadEnds.f (k : Nat) (a0_0 : Int) (a0_1 : Int) (l0_2 : List Int) (a1_0 : Int) (a1_1 : Int) : Option (Bool) := (laws_szBoard.f a0_0 a0_1 l0_2 1048576).bind fun t500 => (if t500 < 0 then (some true) else ((laws_toBoard.f k a0_0 a0_1 l0_2).bind fun bt501 => ((laws_toLeaper.f a1_0 a1_1).bind fun bt506 => ((spec_DeadEnds.f k bt501.1 bt501.2.1 bt501.2.2 bt506.1 bt506.2).bind fun bt508 => ((laws_toBoard.f k a0_0 a0_1 l0_2).bind fun bt512 => ((laws_toLeaper.f a1_0 a1_1).bind fun bt518 => ((impl_DeadEnds.f k bt512.1 bt512.2.1 bt512.2.2 bt518.1 bt518.2).bind fun bt520 => ((laws_eqIntS.f k bt520.1 bt508.1).bind fun t524 => (if t524 = true then (laws_FnExactDeadEnds.j0 k bt508.1 bt508.2 bt520.1 bt520.2 (bt520.2 != bt508.2) a0_0 a0_1 l0_2 a1_0 a1_1 bt512.1 bt512.2.1 bt512.2.2) else (laws_FnExactDeadEnds.j0 k bt508.1 bt508.2 bt520.1 bt520.2 true a0_0 a0_1 l0_2 a1_0 a1_1 bt512.1 bt512.2.1 bt512.2.2))))))))))
def laws_FnExactDeadEnds.T5 : Bool × List (List Nat × List Nat) := (true, [([], []), ([0], [0]), ([], []), ([2, 1], [2]), ([1, 3, 3], [1, 3]), ([4], [4]), ([5], [5]), ([5], [5]), ([6, 4, 0, 1, 2, 3, 4, 5, 6], [6]), ([7, 8, 0, 1, 2, 3, 4, 5, 6, 7, 8], [7])])
def laws_FnExactDeadEnds.B5 : List Nat := [0, 1, 0, 7, 15, 31, 63, 63, 127, 511]
theorem laws_FnExactDeadEnds.tab5 : rtab .any (opsOf Try.f6 5) = laws_FnExactDeadEnds.T5 := by kernel_rfl
theorem laws_FnExactDeadEnds.bits5 : waitsOk laws_FnExactDeadEnds.T5.2 laws_FnExactDeadEnds.B5 = true := by kernel_rfl
def laws_FnExactDeadEnds.T7 : Bool × List (List Nat × List Nat) := (true, [([], []), ([], []), ([1], [1]), ([0, 2, 2], [0, 2]), ([3], [3]), ([4], [4]), ([4], [4]), ([5, 3, 0, 1, 2, 3, 4, 5], [5]), ([6, 7, 0, 1, 2, 3, 4, 5, 6, 7], [6])])
def laws_FnExactDeadEnds.B7 : List Nat := [0, 0, 2, 7, 15, 31, 31, 63, 255]
theorem laws_FnExactDeadEnds.tab7 : rtab .any (opsOf Try.f6 7) = laws_FnExactDeadEnds.T7 := by kernel_rfl
theorem laws_FnExactDeadEnds.bits7 : waitsOk laws_FnExactDeadEnds.T7.2 laws_FnExactDeadEnds.B7 = true := by kernel_rfl
def laws_FnExactDeadEnds.T24 : Bool × List (List Nat × List Nat) := (true, [([], []), ([0], [0]), ([], []), ([2, 1], [2]), ([1, 3, 3], [1, 3]), ([4], [4]), ([5], [5]), ([5], [5]), ([6, 4, 0, 1, 2, 3, 4, 5, 6], [6]), ([7, 8, 0, 1, 2, 3, 4, 5, 6, 7, 8], [7])])
def laws_FnExactDeadEnds.B24 : List Nat := [0, 1, 0, 7, 15, 31, 63, 63, 127, 511]
theorem laws_FnExactDeadEnds.tab24 : rtab .any (opsOf Try.f6 24) = laws_FnExactDeadEnds.T24 := by kernel_rfl
theorem laws_FnExactDeadEnds.bits24 : waitsOk laws_FnExactDeadEnds.T24.2 laws_FnExactDeadEnds.B24 = true := by kernel_rfl
set_option maxHeartbeats 8000000 in
set_option maxRecDepth 100000 in
theorem laws_FnExactDeadEnds.calls (k : Nat) (a0_0 : Int) (a0_1 : Int) (A0_2 : Option Addr) (c0_2 : Nat) (l0_2 : List Int) (a1_0 : Int) (a1_1 : Int) (r : Bool) (w : World) (hr0_2 : Kd.C (Kd.int .i64) w A0_2 l0_2.length l0_2) (hc0_2 : l0_2.length ≤ c0_2) (h : laws_FnExactDeadEnds.f k a0_0 a0_1 l0_2 a1_0 a1_1 = some r) :
  Calls Try.prog 6 #[.agg #[.int .i64 a0_0, .int .i64 a0_1, .slice A0_2 l0_2.length c0_2], .agg #[.int .i64 a1_0, .int .i64 a1_1]] w fun e w' => e = .returned (.bool r) ∧ Below w.heap.size w w' := by
 have hu24 := Try.underlying24
 have hu26 := Try.underlying26
 have hu30 := Try.underlying30
 have HR0_2 := Aside0.mk hr0_2
 have HC0_2 := Aside0.mk hc0_2
 clear hr0_2 hc0_2
 have HB := Aside0.mk (Below.refl w.heap.size w)
 have H : ((laws_szBoard.f a0_0 a0_1 l0_2 1048576).bind fun t500 => (if t500 < 0 then (some true) else ((laws_toBoard.f k a0_0 a0_1 l0_2).bind fun bt501 => ((laws_toLeaper.f a1_0 a1_1).bind fun bt506 => ((spec_DeadEnds.f k bt501.1 bt501.2.1 bt501.2.2 bt506.1 bt506.2).bind fun bt508 => ((laws_toBoard.f k a0_0 a0_1 l0_2).bind fun bt512 => ((laws_toLeaper.f a1_0 a1_1).bind fun bt518 => ((impl_DeadEnds.f k bt512.1 bt512.2.1 bt512.2.2 bt518.1 bt518.2).bind fun bt520 => ((laws_eqIntS.f k bt520.1 bt508.1).bind fun t524 => (if t524 = true then (laws_FnExactDeadEnds.j0 k bt508.1 bt508.2 bt520.1 bt520.2 (bt520.2 != bt508.2) a0_0 a0_1 l0_2 a1_0 a1_1 bt512.1 bt512.2.1 bt512.2.2) else (laws_FnExactDeadEnds.j0 k bt508.1 bt508.2 bt520.1 bt520.2 true a0_0 a0_1 l0_2 a1_0 a1_1 bt512.1 bt512.2.1 bt512.2.2))))))))))) = some r := h
 clear h
 replace H := Option.bind_eq_some_iff.mp H
 obtain ⟨t500, A30, H⟩ := H
 replace H : (if t500 < 0 then (some true) else ((laws_toBoard.f k a0_0 a0_1 l0_2).bind fun bt501 => ((laws_toLeaper.f a1_0 a1_1).bind fun bt506 => ((spec_DeadEnds.f k bt501.1 bt501.2.1 bt501.2.2 bt506.1 bt506.2).bind fun bt508 => ((laws_toBoard.f k a0_0 a0_1 l0_2).bind fun bt512 => ((laws_toLeaper.f a1_0 a1_1).bind fun bt518 => ((impl_DeadEnds.f k bt512.1 bt512.2.1 bt512.2.2 bt518.1 bt518.2).bind fun bt520 => ((laws_eqIntS.f k bt520.1 bt508.1).bind fun t524 => (if t524 = true then (laws_FnExactDeadEnds.j0 k bt508.1 bt508.2 bt520.1 bt520.2 (bt520.2 != bt508.2) a0_0 a0_1 l0_2 a1_0 a1_1 bt512.1 bt512.2.1 bt512.2.2) else (laws_FnExactDeadEnds.j0 k bt508.1 bt508.2 bt520.1 bt520.2 true a0_0 a0_1 l0_2 a1_0 a1_1 bt512.1 bt512.2.1 bt512.2.2)))))))))) = some r := H
 have A3 := Aside0.mk A30
 clear A30
 by_cases c4 : t500 < 0
 ·rw [if_pos c4] at H
  have c4b0 : decide (t500 < 0) = true := decide_eq_true c4
  clear c4
  obtain rfl := Option.some.inj H
  go_enter Try.func6, Try.ntmps6
  go_wp2_with (first | ((with_reducible refine gate_dst (N := 2) rfl ?_); refine box_event ?hg (N := 2) ?hd (cs := #[.int .i64 a0_0, .int .i64 a0_1, .slice A0_2 l0_2.length c0_2]) (t := 24) ?hr ?_; (case hd => rfl); (case hg => rfl); (case hr => first | (go_simp; done) | (go_simp; rfl)); intro gb498 hg w5 hbox hb; have n0_ := Aside0.mk (below_step (by repeat (first | (with_reducible first | exact HB.out | apply below_alloc | apply pw_below_drewN | apply below_drew1) | exact HB.out)) hb); have n1_ := Aside0.mk (hbox); have n2_ := Aside0.mk ((by rw [hg]; exact (below_size (by repeat (first | (with_reducible first | exact HB.out | apply below_alloc | apply pw_below_drewN | apply below_drew1) | exact HB.out))) : w.heap.size ≤ gb498)); have n3_ := Aside0.mk ((by rw [hg]; exact (below_size (by repeat (first | (with_reducible first | exact HB.out | apply below_alloc | apply pw_below_drewN | apply below_drew1) | exact HB.out))) : w.heap.size ≤ gb498)); clear HB; have HB := n0_; have BK498 := n1_; have GW498 := n2_; have GE498 := n3_; clear n0_ n1_ n2_ n3_; clear hb hbox hg) | ((with_reducible refine gate_dst (N := 3) rfl ?_); refine box_event ?hg (N := 3) ?hd (cs := #[.int .i64 a1_0, .int .i64 a1_1]) (t := 26) ?hr ?_; (case hd => rfl); (case hg => rfl); (case hr => first | (go_simp; done) | (go_simp; rfl)); intro gb499 hg w6 hbox hb; have n0_ := Aside0.mk (blk_below (g := gb498) (o := .cells #[.int .i64 a0_0, .int .i64 a0_1, .slice A0_2 l0_2.length c0_2] 24 (0, 0)) (by (with_reducible repeat (first | refine blk_drewN ?_ _ | refine blk_drew ?_ | refine blk_alloc ?_ _)); exact BK498.out) hb); have n1_ := Aside0.mk (below_step (by repeat (first | (with_reducible first | exact HB.out | apply below_alloc | apply pw_below_drewN | apply below_drew1 | refine below_set ?_ GE498.out) | exact HB.out)) hb); have n2_ := Aside0.mk (hbox); have n3_ := Aside0.mk ((by rw [hg]; exact (below_size (by repeat (first | (with_reducible first | exact HB.out | apply below_alloc | apply pw_below_drewN | apply below_drew1 | refine below_set ?_ GE498.out) | exact HB.out))) : w.heap.size ≤ gb499)); have n4_ := Aside0.mk ((by rw [hg]; exact (below_size (by repeat (first | (with_reducible first | exact HB.out | apply below_alloc | apply pw_below_drewN | apply below_drew1 | refine below_set ?_ GE498.out) | exact HB.out))) : w.heap.size ≤ gb499)); have n5_ := Aside0.mk ((by rw [hg]; exact Nat.ne_of_lt (blk_lt (g := gb498) (o := .cells #[.int .i64 a0_0, .int .i64 a0_1, .slice A0_2 l0_2.length c0_2] 24 (0, 0)) (by (with_reducible repeat (first | refine blk_drewN ?_ _ | refine blk_drew ?_ | refine blk_alloc ?_ _)); exact BK498.out)) : gb498 ≠ gb499)); have n6_ := Aside0.mk ((by rw [hg]; exact Nat.ne_of_gt (blk_lt (g := gb498) (o := .cells #[.int .i64 a0_0, .int .i64 a0_1, .slice A0_2 l0_2.length c0_2] 24 (0, 0)) (by (with_reducible repeat (first | refine blk_drewN ?_ _ | refine blk_drew ?_ | refine blk_alloc ?_ _)); exact BK498.out)) : gb499 ≠ gb498)); clear BK498; clear HB; have BK498 := n0_; have HB := n1_; have BK499 := n2_; have GW499 := n3_; have GE499 := n4_; have NB498_499 := n5_; have NB499_498 := n6_; clear n0_ n1_ n2_ n3_ n4_ n5_ n6_; clear hb hbox hg; have hnb7 := NB498_499.out; have hnc7 := NB499_498.out; have hcz8_0 : w6.cell? ⟨gb498, 0, none⟩ = some (.int .i64 a0_0) := (blk_cell BK498.out 0).trans rfl; have hcz8_1 : w6.cell? ⟨gb498, 1, none⟩ = some (.int .i64 a0_1) := (blk_cell BK498.out 1).trans rfl; have hcz8_2 : w6.cell? ⟨gb498, 2, none⟩ = some (.slice A0_2 l0_2.length c0_2) := (blk_cell BK498.out 2).trans rfl; have hfz8_0 := blk_frozen BK498.out 0; have hfz8_1 := blk_frozen BK498.out 1; have hfz8_2 := blk_frozen BK498.out 2) | ((with_reducible refine gate_callee (f := 15) rfl ?_); refine goesL_ (some 18) rfl rfl Try.func15 (by kernel_rfl) rfl #[.agg #[.int .i64 a0_0, .int .i64 a0_1, .slice A0_2 l0_2.length c0_2], .int .i64 1048576] rfl (by (try simp only [List.map_toArray, List.map_cons, List.map_nil]); first | done | rfl | (simp only [List.length_drop, List.length_take]; rfl)) ?_; (with_reducible refine (laws_szBoard.calls a0_0 a0_1 _ _ l0_2 1048576 t500 _ ?side1 ?side2 A3.out).mono ?_); (case side1 => repeat (first | exact (Kd.C_below HR0_2.out HB.out) | (with_reducible refine Kd.C_alloc ?_ _) | (with_reducible refine Kd.C_drewN ?_ _) | (with_reducible refine Kd.C_drew ?_))); (case side2 => exact HC0_2.out); rintro e w9 ⟨rfl, hb⟩; refine ⟨_, rfl, ?_⟩; have n0_ := Aside0.mk (blk_below (g := gb498) (o := .cells #[.int .i64 a0_0, .int .i64 a0_1, .slice A0_2 l0_2.length c0_2] 24 (0, 0)) (by (with_reducible repeat (first | refine blk_drewN ?_ _ | refine blk_drew ?_ | refine blk_alloc ?_ _)); exact BK498.out) hb); have n1_ := Aside0.mk (blk_below (g := gb499) (o := .cells #[.int .i64 a1_0, .int .i64 a1_1] 26 (0, 0)) (by (with_reducible repeat (first | refine blk_drewN ?_ _ | refine blk_drew ?_ | refine blk_alloc ?_ _)); exact BK499.out) hb); have n2_ := Aside0.mk (below_step (by repeat (first | (with_reducible first | exact HB.out | apply below_alloc | apply pw_below_drewN | apply below_drew1 | refine below_set ?_ GE498.out | refine below_set ?_ GE499.out) | exact HB.out)) hb); clear BK498; clear BK499; clear HB; have BK498 := n0_; have BK499 := n1_; have HB := n2_; clear n0_ n1_ n2_; (try clear hb); (try clear hb2); (try clear hk); (try clear hi); (try clear hna_); (try clear hnb_)))
  go_ret
  exact ⟨by first | rfl | (simp [errW_none, errW_some] <;> rfl) | (simp [*, errW_none, errW_some] <;> rfl), by repeat (first | (with_reducible first | exact HB.out | apply below_alloc | apply pw_below_drewN | apply below_drew1 | refine below_set ?_ GE498.out | refine below_set ?_ GE499.out) | exact HB.out)⟩
 ·rw [if_neg c4] at H
  have c4b0 : decide (t500 < 0) = false := decide_eq_false c4
  clear c4
  replace H := Option.bind_eq_some_iff.mp H
  obtain ⟨⟨t501, t502, t503⟩, A100, H⟩ := H
  replace H : ((laws_toLeaper.f a1_0 a1_1).bind fun bt506 => ((spec_DeadEnds.f k t501 t502 t503 bt506.1 bt506.2).bind fun bt508 => ((laws_toBoard.f k a0_0 a0_1 l0_2).bind fun bt512 => ((laws_toLeaper.f a1_0 a1_1).bind fun bt518 => ((impl_DeadEnds.f k bt512.1 bt512.2.1 bt512.2.2 bt518.1 bt518.2).bind fun bt520 => ((laws_eqIntS.f k bt520.1 bt508.1).bind fun t524 => (if t524 = true then (laws_FnExactDeadEnds.j0 k bt508.1 bt508.2 bt520.1 bt520.2 (bt520.2 != bt508.2) a0_0 a0_1 l0_2 a1_0 a1_1 bt512.1 bt512.2.1 bt512.2.2) else (laws_FnExactDeadEnds.j0 k bt508.1 bt508.2 bt520.1 bt520.2 true a0_0 a0_1 l0_2 a1_0 a1_1 bt512.1 bt512.2.1 bt512.2.2)))))))) = some r := H
  have A10 := Aside0.mk A100
  clear A100
  replace H := Option.bind_eq_some_iff.mp H
  obtain ⟨⟨t506, t507⟩, A110, H⟩ := H
  replace H : ((spec_DeadEnds.f k t501 t502 t503 t506 t507).bind fun bt508 => ((laws_toBoard.f k a0_0 a0_1 l0_2).bind fun bt512 => ((laws_toLeaper.f a1_0 a1_1).bind fun bt518 => ((impl_DeadEnds.f k bt512.1 bt512.2.1 bt512.2.2 bt518.1 bt518.2).bind fun bt520 => ((laws_eqIntS.f k bt520.1 bt508.1).bind fun t524 => (if t524 = true then (laws_FnExactDeadEnds.j0 k bt508.1 bt508.2 bt520.1 bt520.2 (bt520.2 != bt508.2) a0_0 a0_1 l0_2 a1_0 a1_1 bt512.1 bt512.2.1 bt512.2.2) else (laws_FnExactDeadEnds.j0 k bt508.1 bt508.2 bt520.1 bt520.2 true a0_0 a0_1 l0_2 a1_0 a1_1 bt512.1 bt512.2.1 bt512.2.2))))))) = some r := H
  have A11 := Aside0.mk A110
  clear A110
  replace H := Option.bind_eq_some_iff.mp H
  obtain ⟨⟨t508, t511⟩, A120, H⟩ := H
  replace H : ((laws_toBoard.f k a0_0 a0_1 l0_2).bind fun bt512 => ((laws_toLeaper.f a1_0 a1_1).bind fun bt518 => ((impl_DeadEnds.f k bt512.1 bt512.2.1 bt512.2.2 bt518.1 bt518.2).bind fun bt520 => ((laws_eqIntS.f k bt520.1 t508).bind fun t524 => (if t524 = true then (laws_FnExactDeadEnds.j0 k t508 t511 bt520.1 bt520.2 (bt520.2 != t511) a0_0 a0_1 l0_2 a1_0 a1_1 bt512.1 bt512.2.1 bt512.2.2) else (laws_FnExactDeadEnds.j0 k t508 t511 bt520.1 bt520.2 true a0_0 a0_1 l0_2 a1_0 a1_1 bt512.1 bt512.2.1 bt512.2.2)))))) = some r := H
  have A12 := Aside0.mk A120
  clear A120
  replace H := Option.bind_eq_some_iff.mp H
  obtain ⟨⟨t512, t513, t514⟩, A130, H⟩ := H
  replace H : ((laws_toLeaper.f a1_0 a1_1).bind fun bt518 => ((impl_DeadEnds.f k t512 t513 t514 bt518.1 bt518.2).bind fun bt520 => ((laws_eqIntS.f k bt520.1 t508).bind fun t524 => (if t524 = true then (laws_FnExactDeadEnds.j0 k t508 t511 bt520.1 bt520.2 (bt520.2 != t511) a0_0 a0_1 l0_2 a1_0 a1_1 t512 t513 t514) else (laws_FnExactDeadEnds.j0 k t508 t511 bt520.1 bt520.2 true a0_0 a0_1 l0_2 a1_0 a1_1 t512 t513 t514))))) = some r := H
  have A13 := Aside0.mk A130
  clear A130
  replace H := Option.bind_eq_some_iff.mp H
  obtain ⟨⟨t518, t519⟩, A140, H⟩ := H
  replace H : ((impl_DeadEnds.f k t512 t513 t514 t518 t519).bind fun bt520 => ((laws_eqIntS.f k bt520.1 t508).bind fun t524 => (if t524 = true then (laws_FnExactDeadEnds.j0 k t508 t511 bt520.1 bt520.2 (bt520.2 != t511) a0_0 a0_1 l0_2 a1_0 a1_1 t512 t513 t514) else (laws_FnExactDeadEnds.j0 k t508 t511 bt520.1 bt520.2 true a0_0 a0_1 l0_2 a1_0 a1_1 t512 t513 t514)))) = some r := H
  have A14 := Aside0.mk A140
  clear A140
  replace H := Option.bind_eq_some_iff.mp H
  obtain ⟨⟨t520, t523⟩, A150, H⟩ := H
  replace H : ((laws_eqIntS.f k t520 t508).bind fun t524 => (if t524 = true then (laws_FnExactDeadEnds.j0 k t508 t511 t520 t523 (t523 != t511) a0_0 a0_1 l0_2 a1_0 a1_1 t512 t513 t514) else (laws_FnExactDeadEnds.j0 k t508 t511 t520 t523 true a0_0 a0_1 l0_2 a1_0 a1_1 t512 t513 t514))) = some r := H
  have A15 := Aside0.mk A150
  clear A150
  have HC16 := Aside0.mk H
  clear H
  go_enter Try.func6, Try.ntmps6
  try go_wp2_with (first | ((with_reducible refine gate_dst (N := 2) rfl ?_); refine box_event ?hg (N := 2) ?hd (cs := #[.int .i64 a0_0, .int .i64 a0_1, .slice A0_2 l0_2.length c0_2]) (t := 24) ?hr ?_; (case hd => rfl); (case hg => rfl); (case hr => first | (go_simp; done) | (go_simp; rfl)); intro gb498 hg w17 hbox hb; have n0_ := Aside0.mk (below_step (by repeat (first | (with_reducible first | exact HB.out | apply below_alloc | apply pw_below_drewN | apply below_drew1) | exact HB.out)) hb); have n1_ := Aside0.mk (hbox); have n2_ := Aside0.mk ((by rw [hg]; exact (below_size (by repeat (first | (with_reducible first | exact HB.out | apply below_alloc | apply pw_below_drewN | apply below_drew1) | exact HB.out))) : w.heap.size ≤ gb498)); have n3_ := Aside0.mk ((by rw [hg]; exact (below_size (by repeat (first | (with_reducible first | exact HB.out | apply below_alloc | apply pw_below_drewN | apply below_drew1) | exact HB.out))) : w.heap.size ≤ gb498)); clear HB; have HB := n0_; have BK498 := n1_; have GW498 := n2_; have GE498 := n3_; clear n0_ n1_ n2_ n3_; clear hb hbox hg) | ((with_reducible refine gate_dst (N := 3) rfl ?_); refine box_event ?hg (N := 3) ?hd (cs := #[.int .i64 a1_0, .int .i64 a1_1]) (t := 26) ?hr ?_; (case hd => rfl); (case hg => rfl); (case hr => first | (go_simp; done) | (go_simp; rfl)); intro gb499 hg w18 hbox hb; have n0_ := Aside0.mk (blk_below (g := gb498) (o := .cells #[.int .i64 a0_0, .int .i64 a0_1, .slice A0_2 l0_2.length c0_2] 24 (0, 0)) (by (with_reducible repeat (first | refine blk_drewN ?_ _ | refine blk_drew ?_ | refine blk_alloc ?_ _)); exact BK498.out) hb); have n1_ := Aside0.mk (below_step (by repeat (first | (with_reducible first | exact HB.out | apply below_alloc | apply pw_below_drewN | apply below_drew1 | refine below_set ?_ GE498.out) | exact HB.out)) hb); have n2_ := Aside0.mk (hbox); have n3_ := Aside0.mk ((by rw [hg]; exact (below_size (by repeat (first | (with_reducible first | exact HB.out | apply below_alloc | apply pw_below_drewN | apply below_drew1 | refine below_set ?_ GE498.out) | exact HB.out))) : w.heap.size ≤ gb499)); have n4_ := Aside0.mk ((by rw [hg]; exact (below_size (by repeat (first | (with_reducible first | exact HB.out | apply below_alloc | apply pw_below_drewN | apply below_drew1 | refine below_set ?_ GE498.out) | exact HB.out))) : w.heap.size ≤ gb499)); have n5_ := Aside0.mk ((by rw [hg]; exact Nat.ne_of_lt (blk_lt (g := gb498) (o := .cells #[.int .i64 a0_0, .int .i64 a0_1, .slice A0_2 l0_2.length c0_2] 24 (0, 0)) (by (with_reducible repeat (first | refine blk_drewN ?_ _ | refine blk_drew ?_ | refine blk_alloc ?_ _)); exact BK498.out)) : gb498 ≠ gb499)); have n6_ := Aside0.mk ((by rw [hg]; exact Nat.ne_of_gt (blk_lt (g := gb498) (o := .cells #[.int .i64 a0_0, .int .i64 a0_1, .slice A0_2 l0_2.length c0_2] 24 (0, 0)) (by (with_reducible repeat (first | refine blk_drewN ?_ _ | refine blk_drew ?_ | refine blk_alloc ?_ _)); exact BK498.out)) : gb499 ≠ gb498)); clear BK498; clear HB; have BK498 := n0_; have HB := n1_; have BK499 := n2_; have GW499 := n3_; have GE499 := n4_; have NB498_499 := n5_; have NB499_498 := n6_; clear n0_ n1_ n2_ n3_ n4_ n5_ n6_; clear hb hbox hg; have hnb19 := NB498_499.out; have hnc19 := NB499_498.out; have hcz20_0 : w18.cell? ⟨gb498, 0, none⟩ = some (.int .i64 a0_0) := (blk_cell BK498.out 0).trans rfl; have hcz20_1 : w18.cell? ⟨gb498, 1, none⟩ = some (.int .i64 a0_1) := (blk_cell BK498.out 1).trans rfl; have hcz20_2 : w18.cell? ⟨gb498, 2, none⟩ = some (.slice A0_2 l0_2.length c0_2) := (blk_cell BK498.out 2).trans rfl; have hfz20_0 := blk_frozen BK498.out 0; have hfz20_1 := blk_frozen BK498.out 1; have hfz20_2 := blk_frozen BK498.out 2) | ((with_reducible refine gate_callee (f := 15) rfl ?_); refine goesL_ (some 18) rfl rfl Try.func15 (by kernel_rfl) rfl #[.agg #[.int .i64 a0_0, .int .i64 a0_1, .slice A0_2 l0_2.length c0_2], .int .i64 1048576] rfl (by (try simp only [List.map_toArray, List.map_cons, List.map_nil]); first | done | rfl | (simp only [List.length_drop, List.length_take]; rfl)) ?_; (with_reducible refine (laws_szBoard.calls a0_0 a0_1 _ _ l0_2 1048576 t500 _ ?side1 ?side2 A3.out).mono ?_); (case side1 => repeat (first | exact (Kd.C_below HR0_2.out HB.out) | (with_reducible refine Kd.C_alloc ?_ _) | (with_reducible refine Kd.C_drewN ?_ _) | (with_reducible refine Kd.C_drew ?_))); (case side2 => exact HC0_2.out); rintro e w21 ⟨rfl, hb⟩; refine ⟨_, rfl, ?_⟩; have n0_ := Aside0.mk (blk_below (g := gb498) (o := .cells #[.int .i64 a0_0, .int .i64 a0_1, .slice A0_2 l0_2.length c0_2] 24 (0, 0)) (by (with_reducible repeat (first | refine blk_drewN ?_ _ | refine blk_drew ?_ | refine blk_alloc ?_ _)); exact BK498.out) hb); have n1_ := Aside0.mk (blk_below (g := gb499) (o := .cells #[.int .i64 a1_0, .int .i64 a1_1] 26 (0, 0)) (by (with_reducible repeat (first | refine blk_drewN ?_ _ | refine blk_drew ?_ | refine blk_alloc ?_ _)); exact BK499.out) hb); have n2_ := Aside0.mk (below_step (by repeat (first | (with_reducible first | exact HB.out | apply below_alloc | apply pw_below_drewN | apply below_drew1 | refine below_set ?_ GE498.out | refine below_set ?_ GE499.out) | exact HB.out)) hb); clear BK498; clear BK499; clear HB; have BK498 := n0_; have BK499 := n1_; have HB := n2_; clear n0_ n1_ n2_; (try clear hb); (try clear hb2); (try clear hk); (try clear hi); (try clear hna_); (try clear hnb_)))
  have n0_ := Aside0.mk (blk_drew BK498.out)
  have n1_ := Aside0.mk (blk_drew BK499.out)
  have n2_ := Aside0.mk (below_drew1 HB.out)
  clear BK498
  clear BK499
  clear HB
  have BK498 := n0_
  have BK499 := n1_
  have HB := n2_
  clear n0_ n1_ n2_
  refine start_ (n := 10) (S := fun w' => w'.cell? ⟨gb498, 0, none⟩ = some (.int .i64 a0_0) ∧ w'.cell? ⟨gb498, 1, none⟩ = some (.int .i64 a0_1) ∧ w'.cell? ⟨gb498, 2, none⟩ = some (.slice A0_2 l0_2.length c0_2) ∧ w'.cell? ⟨gb499, 0, none⟩ = some (.int .i64 a1_0) ∧ w'.cell? ⟨gb499, 1, none⟩ = some (.int .i64 a1_1)) (ds := []) #[false, false, false, false, false, false, false, false, false, false] (by kernel_rfl) rfl rfl ⟨(blk_cell BK498.out 0).trans rfl, (blk_cell BK498.out 1).trans rfl, (blk_cell BK498.out 2).trans rfl, (blk_cell BK499.out 0).trans rfl, (blk_cell BK499.out 1).trans rfl⟩ (fun hHeld => ?_); refine with_tabW laws_FnExactDeadEnds.tab5 laws_FnExactDeadEnds.bits5 (fun HT_ HW_ => ?_)
  generalize w21.drew = w22 at BK498 BK499 HB hHeld ⊢
  refine take_ (i := 0) (N := some 22) (v := ?_) (a' := ?_) #[true, false, false, false, false, false, false, false, false, false] rfl rfl (take_ofW HT_.out HW_.out (by kernel_rfl)) (fun _ _ _ h => h) (Or.inl ⟨by rfl, ?_⟩) hHeld ?_ ?_
  rotate_left
  ·rintro w' ⟨s0, s1, s2, s3, s4⟩
   go_simp
   with_reducible rfl
  rotate_left
  ·simp only [Act.put, List.setIfInBounds_toArray, List.set_cons_zero, List.set_cons_succ, i64_w, i32_w]
   rfl
  refine take_ (i := 2) (N := some 24) (v := ?_) (a' := ?_) #[true, false, true, false, false, false, false, false, false, false] rfl rfl (take_ofW HT_.out HW_.out (by kernel_rfl)) (fun _ _ _ h => h) (Or.inl ⟨by rfl, ?_⟩) hHeld ?_ ?_
  rotate_left
  ·rintro w' ⟨s0, s1, s2, s3, s4⟩
   go_simp
   with_reducible rfl
  rotate_left
  ·simp only [Act.put, List.setIfInBounds_toArray, List.set_cons_zero, List.set_cons_succ, i64_w, i32_w]
   rfl
  refine one_ (i := 1) (N := some 23) #[true, true, true, false, false, false, false, false, false, false] rfl rfl (one_of HT_.out (by kernel_rfl)) (by decide) (fun K hK => ?_)
  refine goes_ Try.func17 (by kernel_rfl) rfl #[.agg #[.int .i64 a0_0, .int .i64 a0_1, .slice A0_2 l0_2.length c0_2]] (by rfl) rfl rfl (by (try simp only [List.map_toArray, List.map_cons, List.map_nil]); first | done | rfl | (simp only [List.length_drop, List.length_take]; rfl)) ?_
  with_reducible refine (laws_toBoard.calls k a0_0 a0_1 _ _ l0_2 t501 t502 t503 _ ?side1 ?side2 A10.out).mono ?_
  (case side1 => repeat (first | exact (Kd.C_below HR0_2.out HB.out) | (with_reducible refine Kd.C_alloc ?_ _) | (with_reducible refine Kd.C_drewN ?_ _) | (with_reducible refine Kd.C_drew ?_)))
  (case side2 => exact HC0_2.out)
  rintro e w23 ⟨v504, rfl, ho0, hb⟩
  refine ⟨_, rfl, ?_⟩
  have n0_ := Aside0.mk (Kd.R_lower ho0 (below_size (by repeat (first | (with_reducible first | exact HB.out | apply below_alloc | apply pw_below_drewN | apply below_drew1 | refine below_set ?_ GE498.out | refine below_set ?_ GE499.out) | exact HB.out))))
  have n1_ := Aside0.mk (blk_below (g := gb498) (o := .cells #[.int .i64 a0_0, .int .i64 a0_1, .slice A0_2 l0_2.length c0_2] 24 (0, 0)) (by (with_reducible repeat (first | refine blk_drewN ?_ _ | refine blk_drew ?_ | refine blk_alloc ?_ _)); exact BK498.out) hb)
  have n2_ := Aside0.mk (blk_below (g := gb499) (o := .cells #[.int .i64 a1_0, .int .i64 a1_1] 26 (0, 0)) (by (with_reducible repeat (first | refine blk_drewN ?_ _ | refine blk_drew ?_ | refine blk_alloc ?_ _)); exact BK499.out) hb)
  have n3_ := Aside0.mk (below_step (by repeat (first | (with_reducible first | exact HB.out | apply below_alloc | apply pw_below_drewN | apply below_drew1 | refine below_set ?_ GE498.out | refine below_set ?_ GE499.out) | exact HB.out)) hb)
  clear BK498
  clear BK499
  clear HB
  have HO505 := n0_
  have BK498 := n1_
  have BK499 := n2_
  have HB := n3_
  clear n0_ n1_ n2_ n3_
  (try clear hb)
  (try clear hb2)
  (try clear hk)
  (try clear hi)
  (try clear ho0)
  (try clear hna_)
  (try clear hnb_)
  refine hK.out _ _ ⟨(blk_cell BK498.out 0).trans rfl, (blk_cell BK498.out 1).trans rfl, (blk_cell BK498.out 2).trans rfl, (blk_cell BK499.out 0).trans rfl, (blk_cell BK499.out 1).trans rfl⟩ (fun hHeld => ?_)
  clear hK K
  refine norm_ (a' := ?_) ?_ ?_
  rotate_left
  ·show Act.put _ (some 23) _ = _
   simp only [Act.put, List.setIfInBounds_toArray, List.set_cons_zero, List.set_cons_succ, i64_w, i32_w]
   rfl
  refine one_ (i := 3) (N := some 25) #[true, true, true, true, false, false, false, false, false, false] rfl rfl (one_of HT_.out (by kernel_rfl)) (by decide) (fun K hK => ?_)
  refine goes_ Try.func18 (by kernel_rfl) rfl #[.agg #[.int .i64 a1_0, .int .i64 a1_1]] (by rfl) rfl rfl (by (try simp only [List.map_toArray, List.map_cons, List.map_nil]); first | done | rfl | (simp only [List.length_drop, List.length_take]; rfl)) ?_
  with_reducible refine (laws_toLeaper.calls a1_0 a1_1 t506 t507 _ A11.out).mono ?_
  rintro e w24 ⟨rfl, hb⟩
  refine ⟨_, rfl, ?_⟩
  have n0_ := Aside0.mk (Kd.R_below (by (with_reducible repeat (first | apply Kd.R_alloc | apply Kd.R_drewN | apply Kd.R_drew)); exact HO505.out) hb)
  have n1_ := Aside0.mk (blk_below (g := gb498) (o := .cells #[.int .i64 a0_0, .int .i64 a0_1, .slice A0_2 l0_2.length c0_2] 24 (0, 0)) (by (with_reducible repeat (first | refine blk_drewN ?_ _ | refine blk_drew ?_ | refine blk_alloc ?_ _)); exact BK498.out) hb)
  have n2_ := Aside0.mk (blk_below (g := gb499) (o := .cells #[.int .i64 a1_0, .int .i64 a1_1] 26 (0, 0)) (by (with_reducible repeat (first | refine blk_drewN ?_ _ | refine blk_drew ?_ | refine blk_alloc ?_ _)); exact BK499.out) hb)
  have n3_ := Aside0.mk (below_step (by repeat (first | (with_reducible first | exact HB.out | apply below_alloc | apply pw_below_drewN | apply below_drew1 | refine below_set ?_ GE498.out | refine below_set ?_ GE499.out) | exact HB.out)) hb)
  clear HO505
  clear BK498
  clear BK499
  clear HB
  have HO505 := n0_
  have BK498 := n1_
  have BK499 := n2_
  have HB := n3_
  clear n0_ n1_ n2_ n3_
  (try clear hb)
  (try clear hb2)
  (try clear hk)
  (try clear hi)
  (try clear hna_)
  (try clear hnb_)
  obtain ⟨Ao25, co25, eo25⟩ := Kd.R_slice HO505.out
  (first | subst eo25 | (injection eo25 with f1_ f2_ f3_; have f4_ := f1_.symm; have f5_ := f3_.symm; clear f1_ f2_ f3_; subst f4_; subst f5_))
  refine hK.out _ _ ⟨(blk_cell BK498.out 0).trans rfl, (blk_cell BK498.out 1).trans rfl, (blk_cell BK498.out 2).trans rfl, (blk_cell BK499.out 0).trans rfl, (blk_cell BK499.out 1).trans rfl⟩ (fun hHeld => ?_)
  clear hK K
  refine norm_ (a' := ?_) ?_ ?_
  rotate_left
  ·show Act.put _ (some 25) _ = _
   simp only [Act.put, List.setIfInBounds_toArray, List.set_cons_zero, List.set_cons_succ, i64_w, i32_w]
   rfl
  refine one_ (i := 4) (N := some 26) #[true, true, true, true, true, false, false, false, false, false] rfl rfl (one_of HT_.out (by kernel_rfl)) (by decide) (fun K hK => ?_)
  refine goes_ Try.func30 (by kernel_rfl) rfl #[.agg #[.int .i64 t501, .int .i64 t502, .slice Ao25 t503.length co25], .agg #[.int .i64 t506, .int .i64 t507]] (by rfl) rfl rfl (by (try simp only [List.map_toArray, List.map_cons, List.map_nil]); first | done | rfl | (simp only [List.length_drop, List.length_take]; rfl)) ?_
  with_reducible refine (spec_DeadEnds.calls k t501 t502 _ _ t503 t506 t507 t508 t511 _ ?side1 ?side2 A12.out).mono ?_
  (case side1 => repeat (first | exact (Kd.R_reads' HO505.out).2.2 | (with_reducible refine Kd.C_alloc ?_ _) | (with_reducible refine Kd.C_drewN ?_ _) | (with_reducible refine Kd.C_drew ?_)))
  (case side2 => exact (Kd.R_reads' HO505.out).2.1)
  rintro e w26 ⟨v509, rfl, ho0, hb⟩
  refine ⟨_, rfl, ?_⟩
  have n0_ := Aside0.mk (Kd.R_elder' (by (with_reducible repeat (first | apply Kd.R_alloc | apply Kd.R_drewN | apply Kd.R_drew)); exact HO505.out) (Kd.R_base ho0) hb)
  have n1_ := Aside0.mk (Kd.R_lower (Kd.R_new' ho0 (Kd.R_lt (by (with_reducible repeat (first | apply Kd.R_alloc | apply Kd.R_drewN | apply Kd.R_drew)); exact HO505.out))) (below_size (by repeat (first | (with_reducible first | exact HB.out | apply below_alloc | apply pw_below_drewN | apply below_drew1 | refine below_set ?_ GE498.out | refine below_set ?_ GE499.out) | exact HB.out))))
  have n2_ := Aside0.mk (blk_below (g := gb498) (o := .cells #[.int .i64 a0_0, .int .i64 a0_1, .slice A0_2 l0_2.length c0_2] 24 (0, 0)) (by (with_reducible repeat (first | refine blk_drewN ?_ _ | refine blk_drew ?_ | refine blk_alloc ?_ _)); exact BK498.out) hb)
  have n3_ := Aside0.mk (blk_below (g := gb499) (o := .cells #[.int .i64 a1_0, .int .i64 a1_1] 26 (0, 0)) (by (with_reducible repeat (first | refine blk_drewN ?_ _ | refine blk_drew ?_ | refine blk_alloc ?_ _)); exact BK499.out) hb)
  have n4_ := Aside0.mk (below_step (by repeat (first | (with_reducible first | exact HB.out | apply below_alloc | apply pw_below_drewN | apply below_drew1 | refine below_set ?_ GE498.out | refine below_set ?_ GE499.out) | exact HB.out)) hb)
  clear HO505
  clear BK498
  clear BK499
  clear HB
  have HO505 := n0_
  have HO510 := n1_
  have BK498 := n2_
  have BK499 := n3_
  have HB := n4_
  clear n0_ n1_ n2_ n3_ n4_
  (try clear hb)
  (try clear hb2)
  (try clear hk)
  (try clear hi)
  (try clear ho0)
  (try clear hna_)
  (try clear hnb_)
  refine hK.out _ _ ⟨(blk_cell BK498.out 0).trans rfl, (blk_cell BK498.out 1).trans rfl, (blk_cell BK498.out 2).trans rfl, (blk_cell BK499.out 0).trans rfl, (blk_cell BK499.out 1).trans rfl⟩ (fun hHeld => ?_)
  clear hK K
  refine norm_ (a' := ?_) ?_ ?_
  rotate_left
  ·show Act.put _ (some 26) _ = _
   simp only [Act.put, List.setIfInBounds_toArray, List.set_cons_zero, List.set_cons_succ, i64_w, i32_w]
   rfl
  refine pure_ (i := 5) (N := some 21) (v := ?_) (a' := ?_) #[true, true, true, true, true, true, false, false, false, false] rfl rfl (any_of HT_.out (by kernel_rfl)) (fun _ _ _ h => h) (Or.inl ⟨by rfl, ?_⟩) ?_ ?_
  rotate_left
  ·intro w'
   go_simp
   with_reducible rfl
  rotate_left
  ·simp only [Act.put, List.setIfInBounds_toArray, List.set_cons_zero, List.set_cons_succ, i64_w, i32_w]
   rfl
  refine pure_ (i := 6) (N := some 27) (v := ?_) (a' := ?_) #[true, true, true, true, true, true, true, false, false, false] rfl rfl (any_of HT_.out (by kernel_rfl)) (fun _ _ _ h => h) (Or.inl ⟨by rfl, ?_⟩) ?_ ?_
  rotate_left
  ·intro w'
   go_simp
   with_reducible rfl
  rotate_left
  ·simp only [Act.put, List.setIfInBounds_toArray, List.set_cons_zero, List.set_cons_succ, i64_w, i32_w]
   rfl
  refine pure_ (i := 7) (N := some 28) (v := ?_) (a' := ?_) #[true, true, true, true, true, true, true, true, false, false] rfl rfl (any_of HT_.out (by kernel_rfl)) (fun _ _ _ h => h) (Or.inl ⟨by rfl, ?_⟩) ?_ ?_
  rotate_left
  ·intro w'
   go_simp
   with_reducible rfl
  rotate_left
  ·simp only [Act.put, List.setIfInBounds_toArray, List.set_cons_zero, List.set_cons_succ, i64_w, i32_w]
   rfl
  refine pure_ (i := 8) (N := some 6) (v := ?_) (a' := ?_) #[true, true, true, true, true, true, true, true, true, false] rfl rfl (any_of HT_.out (by kernel_rfl)) (fun _ _ _ h => h) (Or.inl ⟨by rfl, ?_⟩) ?_ ?_
  rotate_left
  ·intro w'
   go_simp
   with_reducible rfl
  rotate_left
  ·simp only [Act.put, List.setIfInBounds_toArray, List.set_cons_zero, List.set_cons_succ, i64_w, i32_w]
   rfl
  refine pure_ (i := 9) (N := some 7) (v := ?_) (a' := ?_) #[true, true, true, true, true, true, true, true, true, true] rfl rfl (any_of HT_.out (by kernel_rfl)) (fun _ _ _ h => h) (Or.inl ⟨by rfl, ?_⟩) ?_ ?_
  rotate_left
  ·intro w'
   go_simp
   with_reducible rfl
  rotate_left
  ·simp only [Act.put, List.setIfInBounds_toArray, List.set_cons_zero, List.set_cons_succ, i64_w, i32_w]
   rfl
  refine done_ (done_of HT_.out (by kernel_rfl)) ?_
  have hcz27_0 : w26.cell? ⟨gb498, 0, none⟩ = some (.int .i64 a0_0) := (blk_cell BK498.out 0).trans rfl
  have hcz27_1 : w26.cell? ⟨gb498, 1, none⟩ = some (.int .i64 a0_1) := (blk_cell BK498.out 1).trans rfl
  have hcz27_2 : w26.cell? ⟨gb498, 2, none⟩ = some (.slice A0_2 l0_2.length c0_2) := (blk_cell BK498.out 2).trans rfl
  have hfz27_0 := blk_frozen BK498.out 0
  have hfz27_1 := blk_frozen BK498.out 1
  have hfz27_2 := blk_frozen BK498.out 2
  try go_wp2_with (first | ((with_reducible refine gate_callee (f := 17) rfl ?_); refine goesL_ (some 30) rfl rfl Try.func17 (by kernel_rfl) rfl #[.agg #[.int .i64 a0_0, .int .i64 a0_1, .slice A0_2 l0_2.length c0_2]] rfl (by (try simp only [List.map_toArray, List.map_cons, List.map_nil]); first | done | rfl | (simp only [List.length_drop, List.length_take]; rfl)) ?_; (with_reducible refine (laws_toBoard.calls k a0_0 a0_1 _ _ l0_2 t512 t513 t514 _ ?side1 ?side2 A13.out).mono ?_); (case side1 => repeat (first | exact (Kd.C_below HR0_2.out HB.out) | (with_reducible refine Kd.C_alloc ?_ _) | (with_reducible refine Kd.C_drewN ?_ _) | (with_reducible refine Kd.C_drew ?_))); (case side2 => exact HC0_2.out); rintro e w28 ⟨v515, rfl, ho0, hb⟩; refine ⟨_, rfl, ?_⟩; have n0_ := Aside0.mk (Kd.R_elder' (by (with_reducible repeat (first | apply Kd.R_alloc | apply Kd.R_drewN | apply Kd.R_drew)); exact HO505.out) (Kd.R_base ho0) hb); have n1_ := Aside0.mk (Kd.R_elder' (by (with_reducible repeat (first | apply Kd.R_alloc | apply Kd.R_drewN | apply Kd.R_drew)); exact HO510.out) (Kd.R_base ho0) hb); have n2_ := Aside0.mk (Kd.R_lower (Kd.R_new' (Kd.R_new' ho0 (Kd.R_lt (by (with_reducible repeat (first | apply Kd.R_alloc | apply Kd.R_drewN | apply Kd.R_drew)); exact HO505.out))) (Kd.R_lt (by (with_reducible repeat (first | apply Kd.R_alloc | apply Kd.R_drewN | apply Kd.R_drew)); exact HO510.out))) (below_size (by repeat (first | (with_reducible first | exact HB.out | apply below_alloc | apply pw_below_drewN | apply below_drew1 | refine below_set ?_ GE498.out | refine below_set ?_ GE499.out) | exact HB.out)))); have n3_ := Aside0.mk (blk_below (g := gb498) (o := .cells #[.int .i64 a0_0, .int .i64 a0_1, .slice A0_2 l0_2.length c0_2] 24 (0, 0)) (by (with_reducible repeat (first | refine blk_drewN ?_ _ | refine blk_drew ?_ | refine blk_alloc ?_ _)); exact BK498.out) hb); have n4_ := Aside0.mk (blk_below (g := gb499) (o := .cells #[.int .i64 a1_0, .int .i64 a1_1] 26 (0, 0)) (by (with_reducible repeat (first | refine blk_drewN ?_ _ | refine blk_drew ?_ | refine blk_alloc ?_ _)); exact BK499.out) hb); have n5_ := Aside0.mk (below_step (by repeat (first | (with_reducible first | exact HB.out | apply below_alloc | apply pw_below_drewN | apply below_drew1 | refine below_set ?_ GE498.out | refine below_set ?_ GE499.out) | exact HB.out)) hb); clear HO505; clear HO510; clear BK498; clear BK499; clear HB; have HO505 := n0_; have HO510 := n1_; have HO516 := n2_; have BK498 := n3_; have BK499 := n4_; have HB := n5_; clear n0_ n1_ n2_ n3_ n4_ n5_; (try clear hb); (try clear hb2); (try clear hk); (try clear hi); (try clear ho0); (try clear hna_); (try clear hnb_)) | ((with_reducible refine gate_dst (N := 8) rfl ?_); refine box_event ?hg (N := 8) ?hd (cs := #[.int .i64 0, .int .i64 0, .slice none 0 0]) (t := 30) ?hr ?_; (case hd => rfl); (case hg => rfl); (case hr => first | (go_simp; done) | (go_simp; rfl)); intro gb517 hg w29 hbox hb; have n0_ := Aside0.mk (Kd.R_below (by (with_reducible repeat (first | apply Kd.R_alloc | apply Kd.R_drewN | apply Kd.R_drew)); exact HO505.out) hb); have n1_ := Aside0.mk (Kd.R_below (by (with_reducible repeat (first | apply Kd.R_alloc | apply Kd.R_drewN | apply Kd.R_drew)); exact HO510.out) hb); have n2_ := Aside0.mk (Kd.R_below (by (with_reducible repeat (first | apply Kd.R_alloc | apply Kd.R_drewN | apply Kd.R_drew)); exact HO516.out) hb); have n3_ := Aside0.mk (blk_below (g := gb498) (o := .cells #[.int .i64 a0_0, .int .i64 a0_1, .slice A0_2 l0_2.length c0_2] 24 (0, 0)) (by (with_reducible repeat (first | refine blk_drewN ?_ _ | refine blk_drew ?_ | refine blk_alloc ?_ _)); exact BK498.out) hb); have n4_ := Aside0.mk (blk_below (g := gb499) (o := .cells #[.int .i64 a1_0, .int .i64 a1_1] 26 (0, 0)) (by (with_reducible repeat (first | refine blk_drewN ?_ _ | refine blk_drew ?_ | refine blk_alloc ?_ _)); exact BK499.out) hb); have n5_ := Aside0.mk (below_step (by repeat (first | (with_reducible first | exact HB.out | apply below_alloc | apply pw_below_drewN | apply below_drew1 | refine below_set ?_ GE498.out | refine below_set ?_ GE499.out) | exact HB.out)) hb); have n6_ := Aside0.mk (hbox); have n7_ := Aside0.mk ((by rw [hg]; exact (below_size (by repeat (first | (with_reducible first | exact HB.out | apply below_alloc | apply pw_below_drewN | apply below_drew1 | refine below_set ?_ GE498.out | refine below_set ?_ GE499.out) | exact HB.out))) : w.heap.size ≤ gb517)); have n8_ := Aside0.mk ((by rw [hg]; exact (below_size (by repeat (first | (with_reducible first | exact HB.out | apply below_alloc | apply pw_below_drewN | apply below_drew1 | refine below_set ?_ GE498.out | refine below_set ?_ GE499.out) | exact HB.out))) : w.heap.size ≤ gb517)); have n9_ := Aside0.mk ((by rw [hg]; exact Nat.ne_of_lt (blk_lt (g := gb498) (o := .cells #[.int .i64 a0_0, .int .i64 a0_1, .slice A0_2 l0_2.length c0_2] 24 (0, 0)) (by (with_reducible repeat (first | refine blk_drewN ?_ _ | refine blk_drew ?_ | refine blk_alloc ?_ _)); exact BK498.out)) : gb498 ≠ gb517)); have n10_ := Aside0.mk ((by rw [hg]; exact Nat.ne_of_gt (blk_lt (g := gb498) (o := .cells #[.int .i64 a0_0, .int .i64 a0_1, .slice A0_2 l0_2.length c0_2] 24 (0, 0)) (by (with_reducible repeat (first | refine blk_drewN ?_ _ | refine blk_drew ?_ | refine blk_alloc ?_ _)); exact BK498.out)) : gb517 ≠ gb498)); have n11_ := Aside0.mk ((by rw [hg]; exact Nat.ne_of_lt (blk_lt (g := gb499) (o := .cells #[.int .i64 a1_0, .int .i64 a1_1] 26 (0, 0)) (by (with_reducible repeat (first | refine blk_drewN ?_ _ | refine blk_drew ?_ | refine blk_alloc ?_ _)); exact BK499.out)) : gb499 ≠ gb517)); have n12_ := Aside0.mk ((by rw [hg]; exact Nat.ne_of_gt (blk_lt (g := gb499) (o := .cells #[.int .i64 a1_0, .int .i64 a1_1] 26 (0, 0)) (by (with_reducible repeat (first | refine blk_drewN ?_ _ | refine blk_drew ?_ | refine blk_alloc ?_ _)); exact BK499.out)) : gb517 ≠ gb499)); clear HO505; clear HO510; clear HO516; clear BK498; clear BK499; clear HB; have HO505 := n0_; have HO510 := n1_; have HO516 := n2_; have BK498 := n3_; have BK499 := n4_; have HB := n5_; have BK517 := n6_; have GW517 := n7_; have GE517 := n8_; have NB498_517 := n9_; have NB517_498 := n10_; have NB499_517 := n11_; have NB517_499 := n12_; clear n0_ n1_ n2_ n3_ n4_ n5_ n6_ n7_ n8_ n9_ n10_ n11_ n12_; clear hb hbox hg; have hnb30 := NB517_498.out; have hnc30 := NB498_517.out; have hnb31 := NB517_499.out; have hnc31 := NB499_517.out; have hcz32_0 : w29.cell? ⟨gb517, 0, none⟩ = some (.int .i64 0) := (blk_cell BK517.out 0).trans rfl; have hcz32_1 : w29.cell? ⟨gb517, 1, none⟩ = some (.int .i64 0) := (blk_cell BK517.out 1).trans rfl; have hcz32_2 : w29.cell? ⟨gb517, 2, none⟩ = some (.slice none 0 0) := (blk_cell BK517.out 2).trans rfl; have hfz32_0 := blk_frozen BK517.out 0; have hfz32_1 := blk_frozen BK517.out 1; have hfz32_2 := blk_frozen BK517.out 2; obtain ⟨Ao33, co33, eo33⟩ := Kd.R_slice HO516.out; subst eo33))
  have n0_ : Aside0 (Kd.R (Kd.int .i64) 3 (((w29.setCell ⟨gb517, 0, none⟩ (.int .i64 t512)).setCell ⟨gb517, 1, none⟩ (.int .i64 t513)).setCell ⟨gb517, 2, none⟩ (.slice Ao33 t514.length co33)) w.heap.size (fun k_ => some k_ ≠ (v509 : Value).ownBlock ∧ some k_ ≠ (.slice Ao33 t514.length co33 : Value).ownBlock) (.slice Ao25 t503.length co25) t503) := ⟨by (with_reducible repeat (first | apply Kd.R_alloc | apply Kd.R_drewN | apply Kd.R_drew)); exact Kd.R_mono (Kd.R_far (p := ⟨gb517, 2, none⟩) (Kd.R_far (p := ⟨gb517, 1, none⟩) (Kd.R_far (p := ⟨gb517, 0, none⟩) (Kd.R_types HO505.out BK517.out (by decide)) (fun _ hk => hk.2) (.int .i64 t512)) (fun _ hk => hk.2) (.int .i64 t513)) (fun _ hk => hk.2) (.slice Ao33 t514.length co33)) (fun _ hk => ⟨hk.1.1.2, hk.1.2⟩)⟩
  have n1_ : Aside0 (Kd.R (Kd.int .i64) 3 (((w29.setCell ⟨gb517, 0, none⟩ (.int .i64 t512)).setCell ⟨gb517, 1, none⟩ (.int .i64 t513)).setCell ⟨gb517, 2, none⟩ (.slice Ao33 t514.length co33)) w.heap.size (fun k_ => some k_ ≠ (.slice Ao25 t503.length co25 : Value).ownBlock ∧ some k_ ≠ (.slice Ao33 t514.length co33 : Value).ownBlock) v509 t508) := ⟨by (with_reducible repeat (first | apply Kd.R_alloc | apply Kd.R_drewN | apply Kd.R_drew)); exact Kd.R_mono (Kd.R_far (p := ⟨gb517, 2, none⟩) (Kd.R_far (p := ⟨gb517, 1, none⟩) (Kd.R_far (p := ⟨gb517, 0, none⟩) (Kd.R_types HO510.out BK517.out (by decide)) (fun _ hk => hk.2) (.int .i64 t512)) (fun _ hk => hk.2) (.int .i64 t513)) (fun _ hk => hk.2) (.slice Ao33 t514.length co33)) (fun _ hk => ⟨hk.1.1.2, hk.1.2⟩)⟩
  have n2_ : Aside0 (Kd.R (Kd.int .i64) 3 (((w29.setCell ⟨gb517, 0, none⟩ (.int .i64 t512)).setCell ⟨gb517, 1, none⟩ (.int .i64 t513)).setCell ⟨gb517, 2, none⟩ (.slice Ao33 t514.length co33)) w.heap.size (fun k_ => some k_ ≠ (.slice Ao25 t503.length co25 : Value).ownBlock ∧ some k_ ≠ (v509 : Value).ownBlock) (.slice Ao33 t514.length co33) t514) := ⟨by (with_reducible repeat (first | apply Kd.R_alloc | apply Kd.R_drewN | apply Kd.R_drew)); exact Kd.R_mono (Kd.R_far (p := ⟨gb517, 2, none⟩) (Kd.R_far (p := ⟨gb517, 1, none⟩) (Kd.R_far (p := ⟨gb517, 0, none⟩) (Kd.R_types HO516.out BK517.out (by decide)) (fun _ hk => hk.2) (.int .i64 t512)) (fun _ hk => hk.2) (.int .i64 t513)) (fun _ hk => hk.2) (.slice Ao33 t514.length co33)) (fun _ hk => ⟨hk.1.1.2, hk.1.2⟩)⟩
  have n3_ : Aside0 ((((w29.setCell ⟨gb517, 0, none⟩ (.int .i64 t512)).setCell ⟨gb517, 1, none⟩ (.int .i64 t513)).setCell ⟨gb517, 2, none⟩ (.slice Ao33 t514.length co33)).heap[gb498]? = some (.cells #[.int .i64 a0_0, .int .i64 a0_1, .slice A0_2 l0_2.length c0_2] 24 (0, 0))) := ⟨by (with_reducible repeat (first | refine blk_drewN ?_ _ | refine blk_drew ?_ | refine blk_alloc ?_ _)); refine blk_far ?_ NB498_517.out _; (with_reducible repeat (first | refine blk_drewN ?_ _ | refine blk_drew ?_ | refine blk_alloc ?_ _)); refine blk_far ?_ NB498_517.out _; (with_reducible repeat (first | refine blk_drewN ?_ _ | refine blk_drew ?_ | refine blk_alloc ?_ _)); refine blk_far ?_ NB498_517.out _; (with_reducible repeat (first | refine blk_drewN ?_ _ | refine blk_drew ?_ | refine blk_alloc ?_ _)); exact BK498.out⟩
  have n4_ : Aside0 ((((w29.setCell ⟨gb517, 0, none⟩ (.int .i64 t512)).setCell ⟨gb517, 1, none⟩ (.int .i64 t513)).setCell ⟨gb517, 2, none⟩ (.slice Ao33 t514.length co33)).heap[gb499]? = some (.cells #[.int .i64 a1_0, .int .i64 a1_1] 26 (0, 0))) := ⟨by (with_reducible repeat (first | refine blk_drewN ?_ _ | refine blk_drew ?_ | refine blk_alloc ?_ _)); refine blk_far ?_ NB499_517.out _; (with_reducible repeat (first | refine blk_drewN ?_ _ | refine blk_drew ?_ | refine blk_alloc ?_ _)); refine blk_far ?_ NB499_517.out _; (with_reducible repeat (first | refine blk_drewN ?_ _ | refine blk_drew ?_ | refine blk_alloc ?_ _)); refine blk_far ?_ NB499_517.out _; (with_reducible repeat (first | refine blk_drewN ?_ _ | refine blk_drew ?_ | refine blk_alloc ?_ _)); exact BK499.out⟩
  have n5_ : Aside0 ((((w29.setCell ⟨gb517, 0, none⟩ (.int .i64 t512)).setCell ⟨gb517, 1, none⟩ (.int .i64 t513)).setCell ⟨gb517, 2, none⟩ (.slice Ao33 t514.length co33)).heap[gb517]? = some (.cells #[.int .i64 t512, .int .i64 t513, .slice Ao33 t514.length co33] 30 (0, 0))) := ⟨by (with_reducible repeat (first | refine blk_drewN ?_ _ | refine blk_drew ?_ | refine blk_alloc ?_ _)); refine blk_put (cs := #[.int .i64 t512, .int .i64 t513, .slice none 0 0]) ?_ 2 _ rfl; (with_reducible repeat (first | refine blk_drewN ?_ _ | refine blk_drew ?_ | refine blk_alloc ?_ _)); refine blk_put (cs := #[.int .i64 t512, .int .i64 0, .slice none 0 0]) ?_ 1 _ rfl; (with_reducible repeat (first | refine blk_drewN ?_ _ | refine blk_drew ?_ | refine blk_alloc ?_ _)); refine blk_put (cs := #[.int .i64 0, .int .i64 0, .slice none 0 0]) ?_ 0 _ rfl; (with_reducible repeat (first | refine blk_drewN ?_ _ | refine blk_drew ?_ | refine blk_alloc ?_ _)); exact BK517.out⟩
  have n6_ : Aside0 (Below w.heap.size w (((w29.setCell ⟨gb517, 0, none⟩ (.int .i64 t512)).setCell ⟨gb517, 1, none⟩ (.int .i64 t513)).setCell ⟨gb517, 2, none⟩ (.slice Ao33 t514.length co33))) := ⟨by repeat (first | (with_reducible first | exact HB.out | apply below_alloc | apply pw_below_drewN | apply below_drew1 | refine below_set ?_ GE498.out | refine below_set ?_ GE499.out | refine below_set ?_ GE517.out) | exact HB.out)⟩
  (try clear HO505)
  (try clear HO510)
  (try clear HO516)
  (try clear BK498)
  (try clear BK499)
  (try clear BK517)
  (try clear HB)
  generalize (((w29.setCell ⟨gb517, 0, none⟩ (.int .i64 t512)).setCell ⟨gb517, 1, none⟩ (.int .i64 t513)).setCell ⟨gb517, 2, none⟩ (.slice Ao33 t514.length co33)) = w34 at n0_ n1_ n2_ n3_ n4_ n5_ n6_ ⊢
  have HO505 := n0_
  have HO510 := n1_
  have HO516 := n2_
  have BK498 := n3_
  have BK499 := n4_
  have BK517 := n5_
  have HB := n6_
  clear n0_ n1_ n2_ n3_ n4_ n5_ n6_
  have n0_ := Aside0.mk (Kd.R_drew HO505.out)
  have n1_ := Aside0.mk (Kd.R_drew HO510.out)
  have n2_ := Aside0.mk (Kd.R_drew HO516.out)
  have n3_ := Aside0.mk (blk_drew BK498.out)
  have n4_ := Aside0.mk (blk_drew BK499.out)
  have n5_ := Aside0.mk (blk_drew BK517.out)
  have n6_ := Aside0.mk (below_drew1 HB.out)
  clear HO505
  clear HO510
  clear HO516
  clear BK498
  clear BK499
  clear BK517
  clear HB
  have HO505 := n0_
  have HO510 := n1_
  have HO516 := n2_
  have BK498 := n3_
  have BK499 := n4_
  have BK517 := n5_
  have HB := n6_
  clear n0_ n1_ n2_ n3_ n4_ n5_ n6_
  refine start_ (n := 9) (S := fun w' => w'.cell? ⟨gb517, 0, none⟩ = some (.int .i64 t512) ∧ w'.cell? ⟨gb517, 1, none⟩ = some (.int .i64 t513) ∧ w'.cell? ⟨gb517, 2, none⟩ = some (.slice Ao33 t514.length co33) ∧ w'.cell? ⟨gb499, 0, none⟩ = some (.int .i64 a1_0) ∧ w'.cell? ⟨gb499, 1, none⟩ = some (.int .i64 a1_1)) (ds := []) #[false, false, false, false, false, false, false, false, false] (by kernel_rfl) rfl rfl ⟨(blk_cell BK517.out 0).trans rfl, (blk_cell BK517.out 1).trans rfl, (blk_cell BK517.out 2).trans rfl, (blk_cell BK499.out 0).trans rfl, (blk_cell BK499.out 1).trans rfl⟩ (fun hHeld => ?_); refine with_tabW laws_FnExactDeadEnds.tab7 laws_FnExactDeadEnds.bits7 (fun HT_ HW_ => ?_)
  generalize w34.drew = w35 at HO505 HO510 HO516 BK498 BK499 BK517 HB hHeld ⊢
  refine take_ (i := 0) (N := some 32) (v := ?_) (a' := ?_) #[true, false, false, false, false, false, false, false, false] rfl rfl (take_ofW HT_.out HW_.out (by kernel_rfl)) (fun _ _ _ h => h) (Or.inl ⟨by rfl, ?_⟩) hHeld ?_ ?_
  rotate_left
  ·rintro w' ⟨s0, s1, s2, s3, s4⟩
   go_simp
   with_reducible rfl
  rotate_left
  ·simp only [Act.put, List.setIfInBounds_toArray, List.set_cons_zero, List.set_cons_succ, i64_w, i32_w]
   rfl
  refine take_ (i := 1) (N := some 33) (v := ?_) (a' := ?_) #[true, true, false, false, false, false, false, false, false] rfl rfl (take_ofW HT_.out HW_.out (by kernel_rfl)) (fun _ _ _ h => h) (Or.inl ⟨by rfl, ?_⟩) hHeld ?_ ?_
  rotate_left
  ·rintro w' ⟨s0, s1, s2, s3, s4⟩
   go_simp
   with_reducible rfl
  rotate_left
  ·simp only [Act.put, List.setIfInBounds_toArray, List.set_cons_zero, List.set_cons_succ, i64_w, i32_w]
   rfl
  refine one_ (i := 2) (N := some 34) #[true, true, true, false, false, false, false, false, false] rfl rfl (one_of HT_.out (by kernel_rfl)) (by decide) (fun K hK => ?_)
  refine goes_ Try.func18 (by kernel_rfl) rfl #[.agg #[.int .i64 a1_0, .int .i64 a1_1]] (by rfl) rfl rfl (by (try simp only [List.map_toArray, List.map_cons, List.map_nil]); first | done | rfl | (simp only [List.length_drop, List.length_take]; rfl)) ?_
  with_reducible refine (laws_toLeaper.calls a1_0 a1_1 t518 t519 _ A14.out).mono ?_
  rintro e w36 ⟨rfl, hb⟩
  refine ⟨_, rfl, ?_⟩
  have n0_ := Aside0.mk (Kd.R_below (by (with_reducible repeat (first | apply Kd.R_alloc | apply Kd.R_drewN | apply Kd.R_drew)); exact HO505.out) hb)
  have n1_ := Aside0.mk (Kd.R_below (by (with_reducible repeat (first | apply Kd.R_alloc | apply Kd.R_drewN | apply Kd.R_drew)); exact HO510.out) hb)
  have n2_ := Aside0.mk (Kd.R_below (by (with_reducible repeat (first | apply Kd.R_alloc | apply Kd.R_drewN | apply Kd.R_drew)); exact HO516.out) hb)
  have n3_ := Aside0.mk (blk_below (g := gb498) (o := .cells #[.int .i64 a0_0, .int .i64 a0_1, .slice A0_2 l0_2.length c0_2] 24 (0, 0)) (by (with_reducible repeat (first | refine blk_drewN ?_ _ | refine blk_drew ?_ | refine blk_alloc ?_ _)); exact BK498.out) hb)
  have n4_ := Aside0.mk (blk_below (g := gb499) (o := .cells #[.int .i64 a1_0, .int .i64 a1_1] 26 (0, 0)) (by (with_reducible repeat (first | refine blk_drewN ?_ _ | refine blk_drew ?_ | refine blk_alloc ?_ _)); exact BK499.out) hb)
  have n5_ := Aside0.mk (blk_below (g := gb517) (o := .cells #[.int .i64 t512, .int .i64 t513, .slice Ao33 t514.length co33] 30 (0, 0)) (by (with_reducible repeat (first | refine blk_drewN ?_ _ | refine blk_drew ?_ | refine blk_alloc ?_ _)); exact BK517.out) hb)
  have n6_ := Aside0.mk (below_step (by repeat (first | (with_reducible first | exact HB.out | apply below_alloc | apply pw_below_drewN | apply below_drew1 | refine below_set ?_ GE498.out | refine below_set ?_ GE499.out | refine below_set ?_ GE517.out) | exact HB.out)) hb)
  clear HO505
  clear HO510
  clear HO516
  clear BK498
  clear BK499
  clear BK517
  clear HB
  have HO505 := n0_
  have HO510 := n1_
  have HO516 := n2_
  have BK498 := n3_
  have BK499 := n4_
  have BK517 := n5_
  have HB := n6_
  clear n0_ n1_ n2_ n3_ n4_ n5_ n6_
  (try clear hb)
  (try clear hb2)
  (try clear hk)
  (try clear hi)
  (try clear hna_)
  (try clear hnb_)
  refine hK.out _ _ ⟨(blk_cell BK517.out 0).trans rfl, (blk_cell BK517.out 1).trans rfl, (blk_cell BK517.out 2).trans rfl, (blk_cell BK499.out 0).trans rfl, (blk_cell BK499.out 1).trans rfl⟩ (fun hHeld => ?_)
  clear hK K
  refine norm_ (a' := ?_) ?_ ?_
  rotate_left
  ·show Act.put _ (some 34) _ = _
   simp only [Act.put, List.setIfInBounds_toArray, List.set_cons_zero, List.set_cons_succ, i64_w, i32_w]
   rfl
  refine one_ (i := 3) (N := some 35) #[true, true, true, true, false, false, false, false, false] rfl rfl (one_of HT_.out (by kernel_rfl)) (by decide) (fun K hK => ?_)
  refine goes_ Try.func31 (by kernel_rfl) rfl #[.agg #[.int .i64 t512, .int .i64 t513, .slice Ao33 t514.length co33], .agg #[.int .i64 t518, .int .i64 t519]] (by rfl) rfl rfl (by (try simp only [List.map_toArray, List.map_cons, List.map_nil]); first | done | rfl | (simp only [List.length_drop, List.length_take]; rfl)) ?_
  with_reducible refine (impl_DeadEnds.calls k t512 t513 _ _ t514 t518 t519 t520 t523 _ ?side1 ?side2 A15.out).mono ?_
  (case side1 => repeat (first | exact (Kd.R_reads' HO516.out).2.2 | (with_reducible refine Kd.C_alloc ?_ _) | (with_reducible refine Kd.C_drewN ?_ _) | (with_reducible refine Kd.C_drew ?_)))
  (case side2 => exact (Kd.R_reads' HO516.out).2.1)
  rintro e w37 ⟨v521, rfl, ho0, hb⟩
  refine ⟨_, rfl, ?_⟩
  have n0_ := Aside0.mk (Kd.R_elder' (by (with_reducible repeat (first | apply Kd.R_alloc | apply Kd.R_drewN | apply Kd.R_drew)); exact HO505.out) (Kd.R_base ho0) hb)
  have n1_ := Aside0.mk (Kd.R_elder' (by (with_reducible repeat (first | apply Kd.R_alloc | apply Kd.R_drewN | apply Kd.R_drew)); exact HO510.out) (Kd.R_base ho0) hb)
  have n2_ := Aside0.mk (Kd.R_elder' (by (with_reducible repeat (first | apply Kd.R_alloc | apply Kd.R_drewN | apply Kd.R_drew)); exact HO516.out) (Kd.R_base ho0) hb)
  have n3_ := Aside0.mk (Kd.R_lower (Kd.R_new' (Kd.R_new' (Kd.R_new' ho0 (Kd.R_lt (by (with_reducible repeat (first | apply Kd.R_alloc | apply Kd.R_drewN | apply Kd.R_drew)); exact HO505.out))) (Kd.R_lt (by (with_reducible repeat (first | apply Kd.R_alloc | apply Kd.R_drewN | apply Kd.R_drew)); exact HO510.out))) (Kd.R_lt (by (with_reducible repeat (first | apply Kd.R_alloc | apply Kd.R_drewN | apply Kd.R_drew)); exact HO516.out))) (below_size (by repeat (first | (with_reducible first | exact HB.out | apply below_alloc | apply pw_below_drewN | apply below_drew1 | refine below_set ?_ GE498.out | refine below_set ?_ GE499.out | refine below_set ?_ GE517.out) | exact HB.out))))
  have n4_ := Aside0.mk (blk_below (g := gb498) (o := .cells #[.int .i64 a0_0, .int .i64 a0_1, .slice A0_2 l0_2.length c0_2] 24 (0, 0)) (by (with_reducible repeat (first | refine blk_drewN ?_ _ | refine blk_drew ?_ | refine blk_alloc ?_ _)); exact BK498.out) hb)
  have n5_ := Aside0.mk (blk_below (g := gb499) (o := .cells #[.int .i64 a1_0, .int .i64 a1_1] 26 (0, 0)) (by (with_reducible repeat (first | refine blk_drewN ?_ _ | refine blk_drew ?_ | refine blk_alloc ?_ _)); exact BK499.out) hb)
  have n6_ := Aside0.mk (blk_below (g := gb517) (o := .cells #[.int .i64 t512, .int .i64 t513, .slice Ao33 t514.length co33] 30 (0, 0)) (by (with_reducible repeat (first | refine blk_drewN ?_ _ | refine blk_drew ?_ | refine blk_alloc ?_ _)); exact BK517.out) hb)
  have n7_ := Aside0.mk (below_step (by repeat (first | (with_reducible first | exact HB.out | apply below_alloc | apply pw_below_drewN | apply below_drew1 | refine below_set ?_ GE498.out | refine below_set ?_ GE499.out | refine below_set ?_ GE517.out) | exact HB.out)) hb)
  clear HO505
  clear HO510
  clear HO516
  clear BK498
  clear BK499
  clear BK517
  clear HB
  have HO505 := n0_
  have HO510 := n1_
  have HO516 := n2_
  have HO522 := n3_
  have BK498 := n4_
  have BK499 := n5_
  have BK517 := n6_
  have HB := n7_
  clear n0_ n1_ n2_ n3_ n4_ n5_ n6_ n7_
  (try clear hb)
  (try clear hb2)
  (try clear hk)
  (try clear hi)
  (try clear ho0)
  (try clear hna_)
  (try clear hnb_)
  refine hK.out _ _ ⟨(blk_cell BK517.out 0).trans rfl, (blk_cell BK517.out 1).trans rfl, (blk_cell BK517.out 2).trans rfl, (blk_cell BK499.out 0).trans rfl, (blk_cell BK499.out 1).trans rfl⟩ (fun hHeld => ?_)
  clear hK K
  refine norm_ (a' := ?_) ?_ ?_
  rotate_left
  ·show Act.put _ (some 35) _ = _
   simp only [Act.put, List.setIfInBounds_toArray, List.set_cons_zero, List.set_cons_succ, i64_w, i32_w]
   rfl
  refine pure_ (i := 4) (N := some 31) (v := ?_) (a' := ?_) #[true, true, true, true, true, false, false, false, false] rfl rfl (any_of HT_.out (by kernel_rfl)) (fun _ _ _ h => h) (Or.inl ⟨by rfl, ?_⟩) ?_ ?_
  rotate_left
  ·intro w'
   go_simp
   with_reducible rfl
  rotate_left
  ·simp only [Act.put, List.setIfInBounds_toArray, List.set_cons_zero, List.set_cons_succ, i64_w, i32_w]
   rfl
  refine pure_ (i := 5) (N := some 36) (v := ?_) (a' := ?_) #[true, true, true, true, true, true, false, false, false] rfl rfl (any_of HT_.out (by kernel_rfl)) (fun _ _ _ h => h) (Or.inl ⟨by rfl, ?_⟩) ?_ ?_
  rotate_left
  ·intro w'
   go_simp
   with_reducible rfl
  rotate_left
  ·simp only [Act.put, List.setIfInBounds_toArray, List.set_cons_zero, List.set_cons_succ, i64_w, i32_w]
   rfl
  refine pure_ (i := 6) (N := some 37) (v := ?_) (a' := ?_) #[true, true, true, true, true, true, true, false, false] rfl rfl (any_of HT_.out (by kernel_rfl)) (fun _ _ _ h => h) (Or.inl ⟨by rfl, ?_⟩) ?_ ?_
  rotate_left
  ·intro w'
   go_simp
   with_reducible rfl
  rotate_left
  ·simp only [Act.put, List.setIfInBounds_toArray, List.set_cons_zero, List.set_cons_succ, i64_w, i32_w]
   rfl
  refine pure_ (i := 7) (N := some 9) (v := ?_) (a' := ?_) #[true, true, true, true, true, true, true, true, false] rfl rfl (any_of HT_.out (by kernel_rfl)) (fun _ _ _ h => h) (Or.inl ⟨by rfl, ?_⟩) ?_ ?_
  rotate_left
  ·intro w'
   go_simp
   with_reducible rfl
  rotate_left
  ·simp only [Act.put, List.setIfInBounds_toArray, List.set_cons_zero, List.set_cons_succ, i64_w, i32_w]
   rfl
  refine pure_ (i := 8) (N := some 10) (v := ?_) (a' := ?_) #[true, true, true, true, true, true, true, true, true] rfl rfl (any_of HT_.out (by kernel_rfl)) (fun _ _ _ h => h) (Or.inl ⟨by rfl, ?_⟩) ?_ ?_
  rotate_left
  ·intro w'
   go_simp
   with_reducible rfl
  rotate_left
  ·simp only [Act.put, List.setIfInBounds_toArray, List.set_cons_zero, List.set_cons_succ, i64_w, i32_w]
   rfl
  refine done_ (done_of HT_.out (by kernel_rfl)) ?_
  go_upto_region 8 with (fail)
  go_cut [46] (fun v46 wc => ∃ (kq : Nat) (x46_15 : Bool), v46 = .bool x46_15 ∧ Aside0 (laws_FnExactDeadEnds.j0 kq t508 t511 t520 t523 x46_15 a0_0 a0_1 l0_2 a1_0 a1_1 t512 t513 t514 = some r) ∧ Aside0 (kq ≤ k) ∧ Aside0 (Kd.R (Kd.int .i64) 3 wc w.heap.size (fun k_ => some k_ ≠ (v521 : Value).ownBlock ∧ some k_ ≠ ((.slice Ao33 t514.length co33) : Value).ownBlock) v509 t508) ∧ Aside0 (Kd.R (Kd.int .i64) 3 wc w.heap.size (fun k_ => some k_ ≠ (v509 : Value).ownBlock ∧ some k_ ≠ ((.slice Ao33 t514.length co33) : Value).ownBlock) v521 t520) ∧ Aside0 (Kd.R (Kd.int .i64) 3 wc w.heap.size (fun k_ => some k_ ≠ (v509 : Value).ownBlock ∧ some k_ ≠ (v521 : Value).ownBlock) (.slice Ao33 t514.length co33) t514) ∧ Aside0 (wc.heap[gb498]? = some (.cells #[.int .i64 a0_0, .int .i64 a0_1, (.slice A0_2 l0_2.length c0_2)] 24 (0, 0))) ∧ Aside0 (wc.heap[gb499]? = some (.cells #[.int .i64 a1_0, .int .i64 a1_1] 26 (0, 0))) ∧ Aside0 (wc.heap[gb517]? = some (.cells #[.int .i64 t512, .int .i64 t513, (.slice Ao33 t514.length co33)] 30 (0, 0))) ∧ Aside0 (Below w.heap.size w wc))
  case first =>
   have H := HC16.out
   clear HC16
   replace H := Option.bind_eq_some_iff.mp H
   obtain ⟨t524, A380, H⟩ := H
   replace H : (if t524 = true then (laws_FnExactDeadEnds.j0 k t508 t511 t520 t523 (t523 != t511) a0_0 a0_1 l0_2 a1_0 a1_1 t512 t513 t514) else (laws_FnExactDeadEnds.j0 k t508 t511 t520 t523 true a0_0 a0_1 l0_2 a1_0 a1_1 t512 t513 t514)) = some r := H
   have A38 := Aside0.mk A380
   clear A380
   by_cases c39 : t524 = true
   ·subst c39
    have H1 : (laws_FnExactDeadEnds.j0 k t508 t511 t520 t523 (t523 != t511) a0_0 a0_1 l0_2 a1_0 a1_1 t512 t513 t514) = some r := by rw [if_pos rfl] at H; exact H
    clear H
    have H := H1
    clear H1
    have H' := Aside0.mk H
    clear H
    obtain ⟨Ao40, co40, eo40⟩ := Kd.R_slice HO522.out
    subst eo40
    obtain ⟨Ao41, co41, eo41⟩ := Kd.R_slice HO510.out
    subst eo41
    go_wp2_with (first | ((with_reducible refine gate_callee (f := 20) rfl ?_); refine goesL_ (some 40) rfl rfl Try.func20 (by kernel_rfl) rfl #[.slice Ao40 t520.length co40, .slice Ao41 t508.length co41] rfl (by (try simp only [List.map_toArray, List.map_cons, List.map_nil]); first | done | rfl | (simp only [List.length_drop, List.length_take]; rfl)) ?_; (with_reducible refine (laws_eqIntS.calls k _ _ t520 _ _ t508 true _ ?side1 ?side2 ?side3 ?side4 A38.out).mono ?_); (case side1 => repeat (first | exact (Kd.R_reads' HO522.out).2.2 | (with_reducible refine Kd.C_alloc ?_ _) | (with_reducible refine Kd.C_drewN ?_ _) | (with_reducible refine Kd.C_drew ?_))); (case side2 => exact (Kd.R_reads' HO522.out).2.1); (case side3 => repeat (first | exact (Kd.R_reads' HO510.out).2.2 | (with_reducible refine Kd.C_alloc ?_ _) | (with_reducible refine Kd.C_drewN ?_ _) | (with_reducible refine Kd.C_drew ?_))); (case side4 => exact (Kd.R_reads' HO510.out).2.1); rintro e w' ⟨rfl, ⟨nd, rfl⟩⟩; refine ⟨_, rfl, ?_⟩))
    go_meet
    case rel => exact ⟨_, ((t523 != t511)), (by first | rfl | (simp; done) | (simp [*]; done)), H', ⟨by first | omega | exact Nat.le_refl _⟩, ⟨by (with_reducible repeat (first | apply Kd.R_alloc | apply Kd.R_drewN | apply Kd.R_drew)); exact Kd.R_mono HO510.out (fun _ hk => ⟨hk.2, hk.1.2⟩)⟩, ⟨by (with_reducible repeat (first | apply Kd.R_alloc | apply Kd.R_drewN | apply Kd.R_drew)); exact Kd.R_mono HO522.out (fun _ hk => ⟨hk.1.2, hk.2⟩)⟩, ⟨by (with_reducible repeat (first | apply Kd.R_alloc | apply Kd.R_drewN | apply Kd.R_drew)); exact Kd.R_mono HO516.out (fun _ hk => ⟨hk.1.2, hk.2⟩)⟩, ⟨by (with_reducible repeat (first | refine blk_drewN ?_ _ | refine blk_drew ?_ | refine blk_alloc ?_ _)); exact BK498.out⟩, ⟨by (with_reducible repeat (first | refine blk_drewN ?_ _ | refine blk_drew ?_ | refine blk_alloc ?_ _)); exact BK499.out⟩, ⟨by (with_reducible repeat (first | refine blk_drewN ?_ _ | refine blk_drew ?_ | refine blk_alloc ?_ _)); exact BK517.out⟩, ⟨by repeat (first | (with_reducible first | exact HB.out | apply below_alloc | apply pw_below_drewN | apply below_drew1 | refine below_set ?_ GE498.out | refine below_set ?_ GE499.out | refine below_set ?_ GE517.out) | exact HB.out)⟩⟩
   ·replace c39 := Bool.eq_false_iff.mpr c39
    subst c39
    have H1 : (laws_FnExactDeadEnds.j0 k t508 t511 t520 t523 true a0_0 a0_1 l0_2 a1_0 a1_1 t512 t513 t514) = some r := by rw [if_neg (show ¬ (false = true) by decide)] at H; exact H
    clear H
    have H := H1
    clear H1
    have H' := Aside0.mk H
    clear H
    obtain ⟨Ao42, co42, eo42⟩ := Kd.R_slice HO522.out
    subst eo42
    obtain ⟨Ao43, co43, eo43⟩ := Kd.R_slice HO510.out
    subst eo43
    go_wp2_with (first | ((with_reducible refine gate_callee (f := 20) rfl ?_); refine goesL_ (some 40) rfl rfl Try.func20 (by kernel_rfl) rfl #[.slice Ao42 t520.length co42, .slice Ao43 t508.length co43] rfl (by (try simp only [List.map_toArray, List.map_cons, List.map_nil]); first | done | rfl | (simp only [List.length_drop, List.length_take]; rfl)) ?_; (with_reducible refine (laws_eqIntS.calls k _ _ t520 _ _ t508 false _ ?side1 ?side2 ?side3 ?side4 A38.out).mono ?_); (case side1 => repeat (first | exact (Kd.R_reads' HO522.out).2.2 | (with_reducible refine Kd.C_alloc ?_ _) | (with_reducible refine Kd.C_drewN ?_ _) | (with_reducible refine Kd.C_drew ?_))); (case side2 => exact (Kd.R_reads' HO522.out).2.1); (case side3 => repeat (first | exact (Kd.R_reads' HO510.out).2.2 | (with_reducible refine Kd.C_alloc ?_ _) | (with_reducible refine Kd.C_drewN ?_ _) | (with_reducible refine Kd.C_drew ?_))); (case side4 => exact (Kd.R_reads' HO510.out).2.1); rintro e w' ⟨rfl, ⟨nd, rfl⟩⟩; refine ⟨_, rfl, ?_⟩))
    go_meet
    case rel => exact ⟨_, (true), (by first | rfl | (simp; done) | (simp [*]; done)), H', ⟨by first | omega | exact Nat.le_refl _⟩, ⟨by (with_reducible repeat (first | apply Kd.R_alloc | apply Kd.R_drewN | apply Kd.R_drew)); exact Kd.R_mono HO510.out (fun _ hk => ⟨hk.2, hk.1.2⟩)⟩, ⟨by (with_reducible repeat (first | apply Kd.R_alloc | apply Kd.R_drewN | apply Kd.R_drew)); exact Kd.R_mono HO522.out (fun _ hk => ⟨hk.1.2, hk.2⟩)⟩, ⟨by (with_reducible repeat (first | apply Kd.R_alloc | apply Kd.R_drewN | apply Kd.R_drew)); exact Kd.R_mono HO516.out (fun _ hk => ⟨hk.1.2, hk.2⟩)⟩, ⟨by (with_reducible repeat (first | refine blk_drewN ?_ _ | refine blk_drew ?_ | refine blk_alloc ?_ _)); exact BK498.out⟩, ⟨by (with_reducible repeat (first | refine blk_drewN ?_ _ | refine blk_drew ?_ | refine blk_alloc ?_ _)); exact BK499.out⟩, ⟨by (with_reducible repeat (first | refine blk_drewN ?_ _ | refine blk_drew ?_ | refine blk_alloc ?_ _)); exact BK517.out⟩, ⟨by repeat (first | (with_reducible first | exact HB.out | apply below_alloc | apply pw_below_drewN | apply below_drew1 | refine below_set ?_ GE498.out | refine below_set ?_ GE499.out | refine below_set ?_ GE517.out) | exact HB.out)⟩⟩
  case rest =>
   clear HC16
   try clear c1; try clear c2; try clear p2; try clear c3; try clear c4; try clear c4b0; try clear c6; try clear c7; try clear c15; try clear c17; try clear c18; try clear c19; try clear c20; try clear c30; try clear c31; try clear c39; try clear hcz20_0; try clear hcz20_1; try clear hcz20_2; try clear hcz27_0; try clear hcz27_1; try clear hcz27_2; try clear hcz32_0; try clear hcz32_1; try clear hcz32_2; try clear hcz8_0; try clear hcz8_1; try clear hcz8_2; try clear hfz20_0; try clear hfz20_1; try clear hfz20_2; try clear hfz27_0; try clear hfz27_1; try clear hfz27_2; try clear hfz32_0; try clear hfz32_1
   try clear hfz32_2; try clear hfz8_0; try clear hfz8_1; try clear hfz8_2
   obtain ⟨kq, x46_15, rfl, HA, HJ15, HO_6, HO_9, HO_518002, BK498, BK499, BK517, HB⟩ := hcut
   cases kq with
   | zero => exact absurd HA.out (by simp [laws_FnExactDeadEnds.j0])
   | succ kj15 =>
    have H := HA.out
    clear HA
    simp only [laws_FnExactDeadEnds.j0] at H
    by_cases c44 : x46_15 = true
    ·subst c44
     have H1 : (some false) = some r := by rw [if_pos rfl] at H; exact H
     clear H
     have H := H1
     clear H1
     obtain rfl := Option.some.inj H
     go_wp2
     go_ret
     exact ⟨by first | rfl | (simp [errW_none, errW_some] <;> rfl) | (simp [*, errW_none, errW_some] <;> rfl), by repeat (first | (with_reducible first | exact HB.out | apply below_alloc | apply pw_below_drewN | apply below_drew1 | refine below_set ?_ GE498.out | refine below_set ?_ GE499.out | refine below_set ?_ GE517.out) | exact HB.out)⟩
    ·replace c44 := Bool.eq_false_iff.mpr c44
     subst c44
     have H1 : ((laws_toBoard.f kj15 a0_0 a0_1 l0_2).bind fun bt525 => ((laws_eqBoard.f kj15 t512 t513 t514 bt525.1 bt525.2.1 bt525.2.2).bind fun t530 => (if t530 = true then ((laws_markBoard.f kj15 t512 t513 t514 1).bind fun bt531 => (if bt531.1 < 0 then (laws_FnExactDeadEnds.j1 kj15 t508 t511 t520 true a0_0 a0_1 l0_2 a1_0 a1_1) else ((laws_eqIntS.f kj15 t520 t508).bind fun t533 => (if t533 = true then (laws_FnExactDeadEnds.j1 kj15 t508 t511 t520 (t523 != t511) a0_0 a0_1 l0_2 a1_0 a1_1) else (laws_FnExactDeadEnds.j1 kj15 t508 t511 t520 true a0_0 a0_1 l0_2 a1_0 a1_1))))) else (some false)))) = some r := by rw [if_neg (show ¬ (false = true) by decide)] at H; exact H
     clear H
     have H := H1
     clear H1
     replace H := Option.bind_eq_some_iff.mp H
     obtain ⟨⟨t525, t526, t527⟩, A450, H⟩ := H
     replace H : ((laws_eqBoard.f kj15 t512 t513 t514 t525 t526 t527).bind fun t530 => (if t530 = true then ((laws_markBoard.f kj15 t512 t513 t514 1).bind fun bt531 => (if bt531.1 < 0 then (laws_FnExactDeadEnds.j1 kj15 t508 t511 t520 true a0_0 a0_1 l0_2 a1_0 a1_1) else ((laws_eqIntS.f kj15 t520 t508).bind fun t533 => (if t533 = true then (laws_FnExactDeadEnds.j1 kj15 t508 t511 t520 (t523 != t511) a0_0 a0_1 l0_2 a1_0 a1_1) else (laws_FnExactDeadEnds.j1 kj15 t508 t511 t520 true a0_0 a0_1 l0_2 a1_0 a1_1))))) else (some false))) = some r := H
     have A45 := Aside0.mk A450
     clear A450
     replace H := Option.bind_eq_some_iff.mp H
     obtain ⟨t530, A460, H⟩ := H
     replace H : (if t530 = true then ((laws_markBoard.f kj15 t512 t513 t514 1).bind fun bt531 => (if bt531.1 < 0 then (laws_FnExactDeadEnds.j1 kj15 t508 t511 t520 true a0_0 a0_1 l0_2 a1_0 a1_1) else ((laws_eqIntS.f kj15 t520 t508).bind fun t533 => (if t533 = true then (laws_FnExactDeadEnds.j1 kj15 t508 t511 t520 (t523 != t511) a0_0 a0_1 l0_2 a1_0 a1_1) else (laws_FnExactDeadEnds.j1 kj15 t508 t511 t520 true a0_0 a0_1 l0_2 a1_0 a1_1))))) else (some false)) = some r := H
     have A46 := Aside0.mk A460
     clear A460
     by_cases c47 : t530 = true
     ·subst c47
      have H1 : ((laws_markBoard.f kj15 t512 t513 t514 1).bind fun bt531 => (if bt531.1 < 0 then (laws_FnExactDeadEnds.j1 kj15 t508 t511 t520 true a0_0 a0_1 l0_2 a1_0 a1_1) else ((laws_eqIntS.f kj15 t520 t508).bind fun t533 => (if t533 = true then (laws_FnExactDeadEnds.j1 kj15 t508 t511 t520 (t523 != t511) a0_0 a0_1 l0_2 a1_0 a1_1) else (laws_FnExactDeadEnds.j1 kj15 t508 t511 t520 true a0_0 a0_1 l0_2 a1_0 a1_1))))) = some r := by rw [if_pos rfl] at H; exact H
      clear H
      have H := H1
      clear H1
      replace H := Option.bind_eq_some_iff.mp H
      obtain ⟨⟨t531, t532⟩, A480, H⟩ := H
      replace H : (if t531 < 0 then (laws_FnExactDeadEnds.j1 kj15 t508 t511 t520 true a0_0 a0_1 l0_2 a1_0 a1_1) else ((laws_eqIntS.f kj15 t520 t508).bind fun t533 => (if t533 = true then (laws_FnExactDeadEnds.j1 kj15 t508 t511 t520 (t523 != t511) a0_0 a0_1 l0_2 a1_0 a1_1) else (laws_FnExactDeadEnds.j1 kj15 t508 t511 t520 true a0_0 a0_1 l0_2 a1_0 a1_1)))) = some r := H
      have A48 := Aside0.mk A480
      clear A480
      have HC49 := Aside0.mk H
      clear H
      try go_wp2
      have n0_ := Aside0.mk (Kd.R_drew HO_6.out)
      have n1_ := Aside0.mk (Kd.R_drew HO_9.out)
      have n2_ := Aside0.mk (Kd.R_drew HO_518002.out)
      have n3_ := Aside0.mk (blk_drew BK498.out)
      have n4_ := Aside0.mk (blk_drew BK499.out)
      have n5_ := Aside0.mk (blk_drew BK517.out)
      have n6_ := Aside0.mk (below_drew1 HB.out)
      clear HO_6
      clear HO_9
      clear HO_518002
      clear BK498
      clear BK499
      clear BK517
      clear HB
      have HO_6 := n0_
      have HO_9 := n1_
      have HO_518002 := n2_
      have BK498 := n3_
      have BK499 := n4_
      have BK517 := n5_
      have HB := n6_
      clear n0_ n1_ n2_ n3_ n4_ n5_ n6_
      refine start_ (n := 5) (S := fun w' => w'.cell? ⟨gb517, 0, none⟩ = some (.int .i64 t512) ∧ w'.cell? ⟨gb517, 1, none⟩ = some (.int .i64 t513) ∧ w'.cell? ⟨gb517, 2, none⟩ = some (.slice Ao33 t514.length co33) ∧ w'.cell? ⟨gb498, 0, none⟩ = some (.int .i64 a0_0) ∧ w'.cell? ⟨gb498, 1, none⟩ = some (.int .i64 a0_1) ∧ w'.cell? ⟨gb498, 2, none⟩ = some (.slice A0_2 l0_2.length c0_2)) (ds := []) #[false, false, false, false, false] (by kernel_rfl) rfl rfl ⟨(blk_cell BK517.out 0).trans rfl, (blk_cell BK517.out 1).trans rfl, (blk_cell BK517.out 2).trans rfl, (blk_cell BK498.out 0).trans rfl, (blk_cell BK498.out 1).trans rfl, (blk_cell BK498.out 2).trans rfl⟩ (fun hHeld => ?_)
      generalize wc.drew = w50 at HO_6 HO_9 HO_518002 BK498 BK499 BK517 HB hHeld ⊢
      refine take_ (i := 0) (N := some 47) (v := ?_) (a' := ?_) #[true, false, false, false, false] rfl rfl (by kernel_rfl) (fun _ _ _ h => h) (Or.inl ⟨by rfl, ?_⟩) hHeld ?_ ?_
      rotate_left
      ·rintro w' ⟨s0, s1, s2, s3, s4, s5⟩
       go_simp
       with_reducible rfl
      rotate_left
      ·simp only [Act.put, List.setIfInBounds_toArray, List.set_cons_zero, List.set_cons_succ, i64_w, i32_w]
       rfl
      refine take_ (i := 1) (N := some 48) (v := ?_) (a' := ?_) #[true, true, false, false, false] rfl rfl (by kernel_rfl) (fun _ _ _ h => h) (Or.inl ⟨by rfl, ?_⟩) hHeld ?_ ?_
      rotate_left
      ·rintro w' ⟨s0, s1, s2, s3, s4, s5⟩
       go_simp
       with_reducible rfl
      rotate_left
      ·simp only [Act.put, List.setIfInBounds_toArray, List.set_cons_zero, List.set_cons_succ, i64_w, i32_w]
       rfl
      refine one_ (i := 2) (N := some 49) #[true, true, true, false, false] rfl rfl (by kernel_rfl) (by decide) (fun K hK => ?_)
      refine goes_ Try.func17 (by kernel_rfl) rfl #[.agg #[.int .i64 a0_0, .int .i64 a0_1, .slice A0_2 l0_2.length c0_2]] (by rfl) rfl rfl (by (try simp only [List.map_toArray, List.map_cons, List.map_nil]); first | done | rfl | (simp only [List.length_drop, List.length_take]; rfl)) ?_
      with_reducible refine (laws_toBoard.calls kj15 a0_0 a0_1 _ _ l0_2 t525 t526 t527 _ ?side1 ?side2 A45.out).mono ?_
      (case side1 => repeat (first | exact (Kd.C_below HR0_2.out HB.out) | (with_reducible refine Kd.C_alloc ?_ _) | (with_reducible refine Kd.C_drewN ?_ _) | (with_reducible refine Kd.C_drew ?_)))
      (case side2 => exact HC0_2.out)
      rintro e w51 ⟨v528, rfl, ho0, hb⟩
      refine ⟨_, rfl, ?_⟩
      have n0_ := Aside0.mk (Kd.R_elder' (by (with_reducible repeat (first | apply Kd.R_alloc | apply Kd.R_drewN | apply Kd.R_drew)); exact HO_6.out) (Kd.R_base ho0) hb)
      have n1_ := Aside0.mk (Kd.R_elder' (by (with_reducible repeat (first | apply Kd.R_alloc | apply Kd.R_drewN | apply Kd.R_drew)); exact HO_9.out) (Kd.R_base ho0) hb)
      have n2_ := Aside0.mk (Kd.R_elder' (by (with_reducible repeat (first | apply Kd.R_alloc | apply Kd.R_drewN | apply Kd.R_drew)); exact HO_518002.out) (Kd.R_base ho0) hb)
      have n3_ := Aside0.mk (Kd.R_lower (Kd.R_new' (Kd.R_new' (Kd.R_new' ho0 (Kd.R_lt (by (with_reducible repeat (first | apply Kd.R_alloc | apply Kd.R_drewN | apply Kd.R_drew)); exact HO_6.out))) (Kd.R_lt (by (with_reducible repeat (first | apply Kd.R_alloc | apply Kd.R_drewN | apply Kd.R_drew)); exact HO_9.out))) (Kd.R_lt (by (with_reducible repeat (first | apply Kd.R_alloc | apply Kd.R_drewN | apply Kd.R_drew)); exact HO_518002.out))) (below_size (by repeat (first | (with_reducible first | exact HB.out | apply below_alloc | apply pw_below_drewN | apply below_drew1 | refine below_set ?_ GE498.out | refine below_set ?_ GE499.out | refine below_set ?_ GE517.out) | exact HB.out))))
      have n4_ := Aside0.mk (blk_below (g := gb498) (o := .cells #[.int .i64 a0_0, .int .i64 a0_1, .slice A0_2 l0_2.length c0_2] 24 (0, 0)) (by (with_reducible repeat (first | refine blk_drewN ?_ _ | refine blk_drew ?_ | refine blk_alloc ?_ _)); exact BK498.out) hb)
      have n5_ := Aside0.mk (blk_below (g := gb499) (o := .cells #[.int .i64 a1_0, .int .i64 a1_1] 26 (0, 0)) (by (with_reducible repeat (first | refine blk_drewN ?_ _ | refine blk_drew ?_ | refine blk_alloc ?_ _)); exact BK499.out) hb)
      have n6_ := Aside0.mk (blk_below (g := gb517) (o := .cells #[.int .i64 t512, .int .i64 t513, .slice Ao33 t514.length co33] 30 (0, 0)) (by (with_reducible repeat (first | refine blk_drewN ?_ _ | refine blk_drew ?_ | refine blk_alloc ?_ _)); exact BK517.out) hb)
      have n7_ := Aside0.mk (below_step (by repeat (first | (with_reducible first | exact HB.out | apply below_alloc | apply pw_below_drewN | apply below_drew1 | refine below_set ?_ GE498.out | refine below_set ?_ GE499.out | refine below_set ?_ GE517.out) | exact HB.out)) hb)
      clear HO_6
      clear HO_9
      clear HO_518002
      clear BK498
      clear BK499
      clear BK517
      clear HB
      have HO_6 := n0_
      have HO_9 := n1_
      have HO_518002 := n2_
      have HO529 := n3_
      have BK498 := n4_
      have BK499 := n5_
      have BK517 := n6_
      have HB := n7_
      clear n0_ n1_ n2_ n3_ n4_ n5_ n6_ n7_
      (try clear hb)
      (try clear hb2)
      (try clear hk)
      (try clear hi)
      (try clear ho0)
      (try clear hna_)
      (try clear hnb_)
      obtain ⟨Ao52, co52, eo52⟩ := Kd.R_slice HO529.out
      (first | subst eo52 | (injection eo52 with f1_ f2_ f3_; have f4_ := f1_.symm; have f5_ := f3_.symm; clear f1_ f2_ f3_; subst f4_; subst f5_))
      refine hK.out _ _ ⟨(blk_cell BK517.out 0).trans rfl, (blk_cell BK517.out 1).trans rfl, (blk_cell BK517.out 2).trans rfl, (blk_cell BK498.out 0).trans rfl, (blk_cell BK498.out 1).trans rfl, (blk_cell BK498.out 2).trans rfl⟩ (fun hHeld => ?_)
      clear hK K
      refine norm_ (a' := ?_) ?_ ?_
      rotate_left
      ·show Act.put _ (some 49) _ = _
       simp only [Act.put, List.setIfInBounds_toArray, List.set_cons_zero, List.set_cons_succ, i64_w, i32_w]
       rfl
      refine one_ (i := 3) (N := some 50) #[true, true, true, true, false] rfl rfl (by kernel_rfl) (by decide) (fun K hK => ?_)
      refine goes_ Try.func21 (by kernel_rfl) rfl #[.agg #[.int .i64 t512, .int .i64 t513, .slice Ao33 t514.length co33], .agg #[.int .i64 t525, .int .i64 t526, .slice Ao52 t527.length co52]] (by rfl) rfl rfl (by (try simp only [List.map_toArray, List.map_cons, List.map_nil]); first | done | rfl | (simp only [List.length_drop, List.length_take]; rfl)) ?_
      with_reducible refine (laws_eqBoard.calls kj15 t512 t513 _ _ t514 t525 t526 _ _ t527 true _ ?side1 ?side2 ?side3 ?side4 A46.out).mono ?_
      (case side1 => repeat (first | exact (Kd.R_reads' HO_518002.out).2.2 | (with_reducible refine Kd.C_alloc ?_ _) | (with_reducible refine Kd.C_drewN ?_ _) | (with_reducible refine Kd.C_drew ?_)))
      (case side2 => exact (Kd.R_reads' HO_518002.out).2.1)
      (case side3 => repeat (first | exact (Kd.R_reads' HO529.out).2.2 | (with_reducible refine Kd.C_alloc ?_ _) | (with_reducible refine Kd.C_drewN ?_ _) | (with_reducible refine Kd.C_drew ?_)))
      (case side4 => exact (Kd.R_reads' HO529.out).2.1)
      rintro e w53 ⟨rfl, hb⟩
      refine ⟨_, rfl, ?_⟩
      have n0_ := Aside0.mk (Kd.R_below (by (with_reducible repeat (first | apply Kd.R_alloc | apply Kd.R_drewN | apply Kd.R_drew)); exact HO_6.out) hb)
      have n1_ := Aside0.mk (Kd.R_below (by (with_reducible repeat (first | apply Kd.R_alloc | apply Kd.R_drewN | apply Kd.R_drew)); exact HO_9.out) hb)
      have n2_ := Aside0.mk (Kd.R_below (by (with_reducible repeat (first | apply Kd.R_alloc | apply Kd.R_drewN | apply Kd.R_drew)); exact HO_518002.out) hb)
      have n3_ := Aside0.mk (Kd.R_below (by (with_reducible repeat (first | apply Kd.R_alloc | apply Kd.R_drewN | apply Kd.R_drew)); exact HO529.out) hb)
      have n4_ := Aside0.mk (blk_below (g := gb498) (o := .cells #[.int .i64 a0_0, .int .i64 a0_1, .slice A0_2 l0_2.length c0_2] 24 (0, 0)) (by (with_reducible repeat (first | refine blk_drewN ?_ _ | refine blk_drew ?_ | refine blk_alloc ?_ _)); exact BK498.out) hb)
      have n5_ := Aside0.mk (blk_below (g := gb499) (o := .cells #[.int .i64 a1_0, .int .i64 a1_1] 26 (0, 0)) (by (with_reducible repeat (first | refine blk_drewN ?_ _ | refine blk_drew ?_ | refine blk_alloc ?_ _)); exact BK499.out) hb)
      have n6_ := Aside0.mk (blk_below (g := gb517) (o := .cells #[.int .i64 t512, .int .i64 t513, .slice Ao33 t514.length co33] 30 (0, 0)) (by (with_reducible repeat (first | refine blk_drewN ?_ _ | refine blk_drew ?_ | refine blk_alloc ?_ _)); exact BK517.out) hb)
      have n7_ := Aside0.mk (below_step (by repeat (first | (with_reducible first | exact HB.out | apply below_alloc | apply pw_below_drewN | apply below_drew1 | refine below_set ?_ GE498.out | refine below_set ?_ GE499.out | refine below_set ?_ GE517.out) | exact HB.out)) hb)
      clear HO_6
      clear HO_9
      clear HO_518002
      clear HO529
      clear BK498
      clear BK499
      clear BK517
      clear HB
      have HO_6 := n0_
      have HO_9 := n1_
      have HO_518002 := n2_
      have HO529 := n3_
      have BK498 := n4_
      have BK499 := n5_
      have BK517 := n6_
      have HB := n7_
      clear n0_ n1_ n2_ n3_ n4_ n5_ n6_ n7_
      (try clear hb)
      (try clear hb2)
      (try clear hk)
      (try clear hi)
      (try clear hna_)
      (try clear hnb_)
      refine hK.out _ _ ⟨(blk_cell BK517.out 0).trans rfl, (blk_cell BK517.out 1).trans rfl, (blk_cell BK517.out 2).trans rfl, (blk_cell BK498.out 0).trans rfl, (blk_cell BK498.out 1).trans rfl, (blk_cell BK498.out 2).trans rfl⟩ (fun hHeld => ?_)
      clear hK K
      refine norm_ (a' := ?_) ?_ ?_
      rotate_left
      ·show Act.put _ (some 50) _ = _
       simp only [Act.put, List.setIfInBounds_toArray, List.set_cons_zero, List.set_cons_succ, i64_w, i32_w]
       rfl
      refine pure_ (i := 4) (N := some 51) (v := ?_) (a' := ?_) #[true, true, true, true, true] rfl rfl (by kernel_rfl) (fun _ _ _ h => h) (Or.inl ⟨by rfl, ?_⟩) ?_ ?_
      rotate_left
      ·intro w'
       go_simp
       with_reducible rfl
      rotate_left
      ·simp only [Act.put, List.setIfInBounds_toArray, List.set_cons_zero, List.set_cons_succ, i64_w, i32_w]
       rfl
      refine done_ (by kernel_rfl) ?_
      have hnb54 := NB517_498.out
      have hnc54 := NB498_517.out
      have hnb55 := NB517_499.out
      have hnc55 := NB499_517.out
      have hcz56_0 : w53.cell? ⟨gb517, 0, none⟩ = some (.int .i64 t512) := (blk_cell BK517.out 0).trans rfl
      have hcz56_1 : w53.cell? ⟨gb517, 1, none⟩ = some (.int .i64 t513) := (blk_cell BK517.out 1).trans rfl
      have hcz56_2 : w53.cell? ⟨gb517, 2, none⟩ = some (.slice Ao33 t514.length co33) := (blk_cell BK517.out 2).trans rfl
      have hfz56_0 := blk_frozen BK517.out 0
      have hfz56_1 := blk_frozen BK517.out 1
      have hfz56_2 := blk_frozen BK517.out 2
      go_upto_region 14 with (first | ((with_reducible refine gate_callee (f := 22) rfl ?_); refine goesL_ (some 54) rfl rfl Try.func22 (by kernel_rfl) rfl #[.agg #[.int .i64 t512, .int .i64 t513, .slice Ao33 t514.length co33], .int .i64 1] rfl (by (try simp only [List.map_toArray, List.map_cons, List.map_nil]); first | done | rfl | (simp only [List.length_drop, List.length_take]; rfl)) ?_; (with_reducible refine (laws_markBoard.calls kj15 t512 t513 (fun k_ => some k_ = (.slice Ao33 t514.length co33 : Value).ownBlock) (.slice Ao33 t514.length co33) t514 1 t531 t532 w _ ?side1 ?side2 A48.out).mono ?_); (case side1 => repeat (first | (with_reducible first | exact HB.out | apply below_alloc | apply pw_below_drewN | apply below_drew1 | refine below_set ?_ GE498.out | refine below_set ?_ GE499.out | refine below_set ?_ GE517.out) | exact HB.out)); (case side2 => exact Kd.R_tight rfl HO_518002.out); rintro e w57 ⟨rfl, hy0, hb, hkp⟩; refine ⟨_, rfl, ?_⟩; have n0_ := Aside0.mk (Kd.R_mono (ok' := fun k_ => some k_ ≠ (v521 : Value).ownBlock ∧ some k_ ≠ (.slice Ao33 t514.length co33 : Value).ownBlock ∧ some k_ ≠ (.slice Ao52 t527.length co52 : Value).ownBlock) (Kd.R_keptB (HO_6.out) hkp (fun k_ hk_ hs_ => (hk_.1.2) hs_)) (fun k_ hk_ => ⟨hk_.1.1.1, hk_.1.1.2, hk_.1.2⟩)); have n1_ := Aside0.mk (Kd.R_mono (ok' := fun k_ => some k_ ≠ (v509 : Value).ownBlock ∧ some k_ ≠ (.slice Ao33 t514.length co33 : Value).ownBlock ∧ some k_ ≠ (.slice Ao52 t527.length co52 : Value).ownBlock) (Kd.R_keptB (HO_9.out) hkp (fun k_ hk_ hs_ => (hk_.1.2) hs_)) (fun k_ hk_ => ⟨hk_.1.1.1, hk_.1.1.2, hk_.1.2⟩)); have n2_ := Aside0.mk (Kd.R_reok rfl hy0 (fun k_ e_ => HO_518002.out.1 k_ e_)); have n3_ := Aside0.mk (blk_kept (by (with_reducible repeat (first | refine blk_drewN ?_ _ | refine blk_drew ?_ | refine blk_alloc ?_ _)); exact BK498.out) hkp (fun hs_ => (fun e_ => (Kd.R_ne HO_518002.out BK498.out (by decide)) e_) hs_)); have n4_ := Aside0.mk (blk_kept (by (with_reducible repeat (first | refine blk_drewN ?_ _ | refine blk_drew ?_ | refine blk_alloc ?_ _)); exact BK499.out) hkp (fun hs_ => (fun e_ => (Kd.R_ne HO_518002.out BK499.out (by decide)) e_) hs_)); have n5_ := Aside0.mk (blk_kept (by (with_reducible repeat (first | refine blk_drewN ?_ _ | refine blk_drew ?_ | refine blk_alloc ?_ _)); exact BK517.out) hkp (fun hs_ => (fun e_ => (Kd.R_ne HO_518002.out BK517.out (by decide)) e_) hs_)); have n6_ := Aside0.mk (Kd.R_mono (ok' := fun k_ => some k_ ≠ (v509 : Value).ownBlock ∧ some k_ ≠ (v521 : Value).ownBlock ∧ some k_ ≠ (.slice Ao33 t514.length co33 : Value).ownBlock) (Kd.R_keptB (HO529.out) hkp (fun k_ hk_ hs_ => (hk_.2) hs_)) (fun k_ hk_ => ⟨hk_.1.1.1.2, hk_.1.1.2, hk_.1.2⟩)); have n7_ := Aside0.mk (hb); clear HO_6; clear HO_9; clear HO_518002; clear BK498; clear BK499; clear BK517; clear HO529; clear HB; have HO_6 := n0_; have HO_9 := n1_; have HO_518002 := n2_; have BK498 := n3_; have BK499 := n4_; have BK517 := n5_; have HO529 := n6_; have HB := n7_; clear n0_ n1_ n2_ n3_ n4_ n5_ n6_ n7_; (try clear hb); (try clear hkp); (try clear hy0)))
      (try simp only [Act.put, List.setIfInBounds_toArray, List.set_cons_zero, List.set_cons_succ])
      go_cut [67] (fun v67 wc => ∃ (kq : Nat) (x67_48 : Bool), v67 = .bool x67_48 ∧ Aside0 (laws_FnExactDeadEnds.j1 kq t508 t511 t520 x67_48 a0_0 a0_1 l0_2 a1_0 a1_1 = some r) ∧ Aside0 (kq ≤ kj15) ∧ Aside0 (Kd.R (Kd.int .i64) 3 wc w.heap.size (fun k_ => some k_ ≠ (v521 : Value).ownBlock ∧ some k_ ≠ ((.slice Ao33 t514.length co33) : Value).ownBlock) v509 t508) ∧ Aside0 (Kd.R (Kd.int .i64) 3 wc w.heap.size (fun k_ => some k_ ≠ (v509 : Value).ownBlock ∧ some k_ ≠ ((.slice Ao33 t514.length co33) : Value).ownBlock) v521 t520) ∧ Aside0 (Kd.R (Kd.int .i64) 3 wc w.heap.size (fun k_ => some k_ ≠ (v509 : Value).ownBlock ∧ some k_ ≠ (v521 : Value).ownBlock) (.slice Ao33 t514.length co33) t532) ∧ Aside0 (wc.heap[gb498]? = some (.cells #[.int .i64 a0_0, .int .i64 a0_1, (.slice A0_2 l0_2.length c0_2)] 24 (0, 0))) ∧ Aside0 (wc.heap[gb499]? = some (.cells #[.int .i64 a1_0, .int .i64 a1_1] 26 (0, 0))) ∧ Aside0 (wc.heap[gb517]? = some (.cells #[.int .i64 t512, .int .i64 t513, (.slice Ao33 t514.length co33)] 30 (0, 0))) ∧ Aside0 (Below w.heap.size w wc))
      case first =>
       have H := HC49.out
       clear HC49
       by_cases c58 : t531 < 0
       ·rw [if_pos c58] at H
        have c58b0 : decide (t531 < 0) = true := decide_eq_true c58
        clear c58
        (first | rw [c58b0] | (simp only [i64_w, i32_w]; rw [c58b0]) | skip)
        have H' := Aside0.mk H
        clear H
        go_wp2
        go_meet
        case rel => exact ⟨_, (true), (by first | rfl | (simp; done) | (simp [*]; done)), H', ⟨by have := HJ15.out; first | omega | exact Nat.le_refl _⟩, ⟨by (with_reducible repeat (first | apply Kd.R_alloc | apply Kd.R_drewN | apply Kd.R_drew)); exact Kd.R_mono HO_6.out (fun _ hk => ⟨hk.1, hk.2.1⟩)⟩, ⟨by (with_reducible repeat (first | apply Kd.R_alloc | apply Kd.R_drewN | apply Kd.R_drew)); exact Kd.R_mono HO_9.out (fun _ hk => ⟨hk.1, hk.2.1⟩)⟩, ⟨by (with_reducible repeat (first | apply Kd.R_alloc | apply Kd.R_drewN | apply Kd.R_drew)); exact Kd.R_mono HO_518002.out (fun _ hk => ⟨hk.1.1, hk.1.2⟩)⟩, ⟨by (with_reducible repeat (first | refine blk_drewN ?_ _ | refine blk_drew ?_ | refine blk_alloc ?_ _)); exact BK498.out⟩, ⟨by (with_reducible repeat (first | refine blk_drewN ?_ _ | refine blk_drew ?_ | refine blk_alloc ?_ _)); exact BK499.out⟩, ⟨by (with_reducible repeat (first | refine blk_drewN ?_ _ | refine blk_drew ?_ | refine blk_alloc ?_ _)); exact BK517.out⟩, ⟨by repeat (first | (with_reducible first | exact HB.out | apply below_alloc | apply pw_below_drewN | apply below_drew1 | refine below_set ?_ GE498.out | refine below_set ?_ GE499.out | refine below_set ?_ GE517.out) | exact HB.out)⟩⟩
       ·rw [if_neg c58] at H
        have c58b0 : decide (t531 < 0) = false := decide_eq_false c58
        clear c58
        (first | rw [c58b0] | (simp only [i64_w, i32_w]; rw [c58b0]) | skip)
        replace H := Option.bind_eq_some_iff.mp H
        obtain ⟨t533, A590, H⟩ := H
        replace H : (if t533 = true then (laws_FnExactDeadEnds.j1 kj15 t508 t511 t520 (t523 != t511) a0_0 a0_1 l0_2 a1_0 a1_1) else (laws_FnExactDeadEnds.j1 kj15 t508 t511 t520 true a0_0 a0_1 l0_2 a1_0 a1_1)) = some r := H
        have A59 := Aside0.mk A590
        clear A590
        by_cases c60 : t533 = true
        ·subst c60
         have H1 : (laws_FnExactDeadEnds.j1 kj15 t508 t511 t520 (t523 != t511) a0_0 a0_1 l0_2 a1_0 a1_1) = some r := by rw [if_pos rfl] at H; exact H
         clear H
         have H := H1
         clear H1
         have H' := Aside0.mk H
         clear H
         obtain ⟨Ao61, co61, eo61⟩ := Kd.R_slice HO_9.out
         subst eo61
         obtain ⟨Ao62, co62, eo62⟩ := Kd.R_slice HO_6.out
         subst eo62
         go_wp2_with (first | (go_at_call 20; (with_reducible refine (laws_eqIntS.calls kj15 _ _ t520 _ _ t508 true _ ?side1 ?side2 ?side3 ?side4 A59.out).mono ?_); (case side1 => repeat (first | exact (Kd.R_reads' HO_9.out).2.2 | (with_reducible refine Kd.C_alloc ?_ _) | (with_reducible refine Kd.C_drewN ?_ _) | (with_reducible refine Kd.C_drew ?_))); (case side2 => exact (Kd.R_reads' HO_9.out).2.1); (case side3 => repeat (first | exact (Kd.R_reads' HO_6.out).2.2 | (with_reducible refine Kd.C_alloc ?_ _) | (with_reducible refine Kd.C_drewN ?_ _) | (with_reducible refine Kd.C_drew ?_))); (case side4 => exact (Kd.R_reads' HO_6.out).2.1); rintro e w' ⟨rfl, ⟨nd, rfl⟩⟩))
         go_meet
         case rel => exact ⟨_, ((t523 != t511)), (by first | rfl | (simp; done) | (simp [*]; done)), H', ⟨by have := HJ15.out; first | omega | exact Nat.le_refl _⟩, ⟨by (with_reducible repeat (first | apply Kd.R_alloc | apply Kd.R_drewN | apply Kd.R_drew)); exact Kd.R_mono HO_6.out (fun _ hk => ⟨hk.1, hk.2.1⟩)⟩, ⟨by (with_reducible repeat (first | apply Kd.R_alloc | apply Kd.R_drewN | apply Kd.R_drew)); exact Kd.R_mono HO_9.out (fun _ hk => ⟨hk.1, hk.2.1⟩)⟩, ⟨by (with_reducible repeat (first | apply Kd.R_alloc | apply Kd.R_drewN | apply Kd.R_drew)); exact Kd.R_mono HO_518002.out (fun _ hk => ⟨hk.1.1, hk.1.2⟩)⟩, ⟨by (with_reducible repeat (first | refine blk_drewN ?_ _ | refine blk_drew ?_ | refine blk_alloc ?_ _)); exact BK498.out⟩, ⟨by (with_reducible repeat (first | refine blk_drewN ?_ _ | refine blk_drew ?_ | refine blk_alloc ?_ _)); exact BK499.out⟩, ⟨by (with_reducible repeat (first | refine blk_drewN ?_ _ | refine blk_drew ?_ | refine blk_alloc ?_ _)); exact BK517.out⟩, ⟨by repeat (first | (with_reducible first | exact HB.out | apply below_alloc | apply pw_below_drewN | apply below_drew1 | refine below_set ?_ GE498.out | refine below_set ?_ GE499.out | refine below_set ?_ GE517.out) | exact HB.out)⟩⟩
        ·replace c60 := Bool.eq_false_iff.mpr c60
         subst c60
         have H1 : (laws_FnExactDeadEnds.j1 kj15 t508 t511 t520 true a0_0 a0_1 l0_2 a1_0 a1_1) = some r := by rw [if_neg (show ¬ (false = true) by decide)] at H; exact H
         clear H
         have H := H1
         clear H1
         have H' := Aside0.mk H
         clear H
         obtain ⟨Ao63, co63, eo63⟩ := Kd.R_slice HO_9.out
         subst eo63
         obtain ⟨Ao64, co64, eo64⟩ := Kd.R_slice HO_6.out
         subst eo64
         go_wp2_with (first | (go_at_call 20; (with_reducible refine (laws_eqIntS.calls kj15 _ _ t520 _ _ t508 false _ ?side1 ?side2 ?side3 ?side4 A59.out).mono ?_); (case side1 => repeat (first | exact (Kd.R_reads' HO_9.out).2.2 | (with_reducible refine Kd.C_alloc ?_ _) | (with_reducible refine Kd.C_drewN ?_ _) | (with_reducible refine Kd.C_drew ?_))); (case side2 => exact (Kd.R_reads' HO_9.out).2.1); (case side3 => repeat (first | exact (Kd.R_reads' HO_6.out).2.2 | (with_reducible refine Kd.C_alloc ?_ _) | (with_reducible refine Kd.C_drewN ?_ _) | (with_reducible refine Kd.C_drew ?_))); (case side4 => exact (Kd.R_reads' HO_6.out).2.1); rintro e w' ⟨rfl, ⟨nd, rfl⟩⟩))
         go_meet
         case rel => exact ⟨_, (true), (by first | rfl | (simp; done) | (simp [*]; done)), H', ⟨by have := HJ15.out; first | omega | exact Nat.le_refl _⟩, ⟨by (with_reducible repeat (first | apply Kd.R_alloc | apply Kd.R_drewN | apply Kd.R_drew)); exact Kd.R_mono HO_6.out (fun _ hk => ⟨hk.1, hk.2.1⟩)⟩, ⟨by (with_reducible repeat (first | apply Kd.R_alloc | apply Kd.R_drewN | apply Kd.R_drew)); exact Kd.R_mono HO_9.out (fun _ hk => ⟨hk.1, hk.2.1⟩)⟩, ⟨by (with_reducible repeat (first | apply Kd.R_alloc | apply Kd.R_drewN | apply Kd.R_drew)); exact Kd.R_mono HO_518002.out (fun _ hk => ⟨hk.1.1, hk.1.2⟩)⟩, ⟨by (with_reducible repeat (first | refine blk_drewN ?_ _ | refine blk_drew ?_ | refine blk_alloc ?_ _)); exact BK498.out⟩, ⟨by (with_reducible repeat (first | refine blk_drewN ?_ _ | refine blk_drew ?_ | refine blk_alloc ?_ _)); exact BK499.out⟩, ⟨by (with_reducible repeat (first | refine blk_drewN ?_ _ | refine blk_drew ?_ | refine blk_alloc ?_ _)); exact BK517.out⟩, ⟨by repeat (first | (with_reducible first | exact HB.out | apply below_alloc | apply pw_below_drewN | apply below_drew1 | refine below_set ?_ GE498.out | refine below_set ?_ GE499.out | refine below_set ?_ GE517.out) | exact HB.out)⟩⟩
      case rest =>
       clear HC49
       try clear c1; try clear c2; try clear p2; try clear c3; try clear c4; try clear c4b0; try clear c5; try clear c6; try clear c7; try clear c15; try clear c17; try clear c18; try clear c19; try clear c20; try clear c21; try clear c22; try clear c30; try clear c31; try clear c39; try clear c44; try clear c47; try clear c54; try clear c55; try clear c58; try clear c58b0; try clear c60; try clear hcz20_0; try clear hcz20_1; try clear hcz20_2; try clear hcz27_0; try clear hcz27_1; try clear hcz27_2; try clear hcz32_0; try clear hcz32_1; try clear hcz32_2; try clear hcz56_0; try clear hcz56_1; try clear hcz56_2
       try clear hcz8_0; try clear hcz8_1; try clear hcz8_2; try clear hfz20_0; try clear hfz20_1; try clear hfz20_2; try clear hfz27_0; try clear hfz27_1; try clear hfz27_2; try clear hfz32_0; try clear hfz32_1; try clear hfz32_2; try clear hfz56_0; try clear hfz56_1; try clear hfz56_2; try clear hfz8_0; try clear hfz8_1; try clear hfz8_2; try clear p2
       obtain ⟨kq, x67_48, rfl, HA, HJ48, HO_6, HO_9, HO_518002, BK498, BK499, BK517, HB⟩ := hcut
       have hl518002_48 := (Kd.R_reads' HO_518002.out).1
       rw [hl518002_48] at HO_518002
       (try simp only [hl518002_48])
       (try simp only [hl518002_48] at BK498)
       (try simp only [hl518002_48] at BK499)
       (try simp only [hl518002_48] at BK517)
       (try simp only [hl518002_48] at HO_6)
       (try simp only [hl518002_48] at HO_9)
       cases kq with
       | zero => exact absurd HA.out (by simp [laws_FnExactDeadEnds.j1])
       | succ kj48 =>
        have H := HA.out
        clear HA
        simp only [laws_FnExactDeadEnds.j1] at H
        by_cases c65 : x67_48 = true
        ·subst c65
         have H1 : (some false) = some r := by rw [if_pos rfl] at H; exact H
         clear H
         have H := H1
         clear H1
         obtain rfl := Option.some.inj H
         go_wp2
         go_ret
         exact ⟨by first | rfl | (simp [errW_none, errW_some] <;> rfl) | (simp [*, errW_none, errW_some] <;> rfl), by repeat (first | (with_reducible first | exact HB.out | apply below_alloc | apply pw_below_drewN | apply below_drew1 | refine below_set ?_ GE498.out | refine below_set ?_ GE499.out | refine below_set ?_ GE517.out) | exact HB.out)⟩
        ·replace c65 := Bool.eq_false_iff.mpr c65
         subst c65
         have H1 : ((laws_markIntS.f kj48 t520 1).bind fun bt534 => ((laws_heldIntS.f kj48 bt534.2 1).bind fun t536 => (if t536 < 0 then (some false) else (if t536 = bt534.1 then ((laws_toBoard.f kj48 a0_0 a0_1 l0_2).bind fun bt537 => ((laws_toLeaper.f a1_0 a1_1).bind fun bt542 => ((impl_DeadEnds.f kj48 bt537.1 bt537.2.1 bt537.2.2 bt542.1 bt542.2).bind fun bt544 => ((laws_eqIntS.f kj48 bt544.1 t508).bind fun t548 => (if t548 = true then (laws_FnExactDeadEnds.j2 kj48 bt534.2 bt534.1 (bt544.2 != t511)) else (laws_FnExactDeadEnds.j2 kj48 bt534.2 bt534.1 true)))))) else (some false))))) = some r := by rw [if_neg (show ¬ (false = true) by decide)] at H; exact H
         clear H
         have H := H1
         clear H1
         replace H := Option.bind_eq_some_iff.mp H
         obtain ⟨⟨t534, t535⟩, A660, H⟩ := H
         replace H : ((laws_heldIntS.f kj48 t535 1).bind fun t536 => (if t536 < 0 then (some false) else (if t536 = t534 then ((laws_toBoard.f kj48 a0_0 a0_1 l0_2).bind fun bt537 => ((laws_toLeaper.f a1_0 a1_1).bind fun bt542 => ((impl_DeadEnds.f kj48 bt537.1 bt537.2.1 bt537.2.2 bt542.1 bt542.2).bind fun bt544 => ((laws_eqIntS.f kj48 bt544.1 t508).bind fun t548 => (if t548 = true then (laws_FnExactDeadEnds.j2 kj48 t535 t534 (bt544.2 != t511)) else (laws_FnExactDeadEnds.j2 kj48 t535 t534 true)))))) else (some false)))) = some r := H
         have A66 := Aside0.mk A660
         clear A660
         replace H := Option.bind_eq_some_iff.mp H
         obtain ⟨t536, A670, H⟩ := H
         replace H : (if t536 < 0 then (some false) else (if t536 = t534 then ((laws_toBoard.f kj48 a0_0 a0_1 l0_2).bind fun bt537 => ((laws_toLeaper.f a1_0 a1_1).bind fun bt542 => ((impl_DeadEnds.f kj48 bt537.1 bt537.2.1 bt537.2.2 bt542.1 bt542.2).bind fun bt544 => ((laws_eqIntS.f kj48 bt544.1 t508).bind fun t548 => (if t548 = true then (laws_FnExactDeadEnds.j2 kj48 t535 t534 (bt544.2 != t511)) else (laws_FnExactDeadEnds.j2 kj48 t535 t534 true)))))) else (some false))) = some r := H
         have A67 := Aside0.mk A670
         clear A670
         by_cases c68 : t536 < 0
         ·rw [if_pos c68] at H
          have c68b0 : decide (t536 < 0) = true := decide_eq_true c68
          clear c68
          obtain rfl := Option.some.inj H
          obtain ⟨Ao69, co69, eo69⟩ := Kd.R_slice HO_9.out
          subst eo69
          go_wp2_with (first | ((with_reducible refine gate_callee (f := 23) rfl ?_); refine goesL_ (some 70) rfl rfl Try.func23 (by kernel_rfl) rfl #[.slice Ao69 t520.length co69, .int .i64 1] rfl (by (try simp only [List.map_toArray, List.map_cons, List.map_nil]); first | done | rfl | (simp only [List.length_drop, List.length_take]; rfl)) ?_; (with_reducible refine (laws_markIntS.calls kj48 (fun k_ => some k_ = (.slice Ao69 t520.length co69 : Value).ownBlock) (.slice Ao69 t520.length co69) t520 1 t534 t535 w _ ?side1 ?side2 A66.out).mono ?_); (case side1 => repeat (first | (with_reducible first | exact HB.out | apply below_alloc | apply pw_below_drewN | apply below_drew1 | refine below_set ?_ GE498.out | refine below_set ?_ GE499.out | refine below_set ?_ GE517.out) | exact HB.out)); (case side2 => exact Kd.R_tight rfl HO_9.out); rintro e w70 ⟨rfl, hy0, hb, hkp⟩; refine ⟨_, rfl, ?_⟩; have n0_ := Aside0.mk (Kd.R_mono (ok' := fun k_ => some k_ ≠ (.slice Ao69 t520.length co69 : Value).ownBlock ∧ some k_ ≠ (.slice Ao33 t532.length co33 : Value).ownBlock) (Kd.R_keptB (HO_6.out) hkp (fun k_ hk_ hs_ => (hk_.1) hs_)) (fun k_ hk_ => ⟨hk_.1.1, hk_.1.2⟩)); have n1_ := Aside0.mk (Kd.R_reok rfl hy0 (fun k_ e_ => HO_9.out.1 k_ e_)); have n2_ := Aside0.mk (Kd.R_mono (ok' := fun k_ => some k_ ≠ (v509 : Value).ownBlock ∧ some k_ ≠ (.slice Ao69 t520.length co69 : Value).ownBlock) (Kd.R_keptB (HO_518002.out) hkp (fun k_ hk_ hs_ => (hk_.2) hs_)) (fun k_ hk_ => ⟨hk_.1.1, hk_.1.2⟩)); have n3_ := Aside0.mk (blk_kept (by (with_reducible repeat (first | refine blk_drewN ?_ _ | refine blk_drew ?_ | refine blk_alloc ?_ _)); exact BK498.out) hkp (fun hs_ => (fun e_ => (Kd.R_ne HO_9.out BK498.out (by decide)) e_) hs_)); have n4_ := Aside0.mk (blk_kept (by (with_reducible repeat (first | refine blk_drewN ?_ _ | refine blk_drew ?_ | refine blk_alloc ?_ _)); exact BK499.out) hkp (fun hs_ => (fun e_ => (Kd.R_ne HO_9.out BK499.out (by decide)) e_) hs_)); have n5_ := Aside0.mk (blk_kept (by (with_reducible repeat (first | refine blk_drewN ?_ _ | refine blk_drew ?_ | refine blk_alloc ?_ _)); exact BK517.out) hkp (fun hs_ => (fun e_ => (Kd.R_ne HO_9.out BK517.out (by decide)) e_) hs_)); have n6_ := Aside0.mk (hb); clear HO_6; clear HO_9; clear HO_518002; clear BK498; clear BK499; clear BK517; clear HB; have HO_6 := n0_; have HO_9 := n1_; have HO_518002 := n2_; have BK498 := n3_; have BK499 := n4_; have BK517 := n5_; have HB := n6_; clear n0_ n1_ n2_ n3_ n4_ n5_ n6_; (try clear hb); (try clear hkp); (try clear hy0)) | ((with_reducible refine gate_callee (f := 24) rfl ?_); refine goesL_ (some 73) rfl rfl Try.func24 (by kernel_rfl) rfl #[.slice Ao69 t535.length co69, .int .i64 1] rfl (by (try simp only [List.map_toArray, List.map_cons, List.map_nil]); first | done | (rw [show t535.length = t520.length from (Kd.R_reads' HO_9.out).1.symm] <;> rfl) | rfl | (simp only [List.length_drop, List.length_take]; rfl)) ?_; (with_reducible refine (laws_heldIntS.calls kj48 _ _ t535 1 t536 _ ?side1 ?side2 A67.out).mono ?_); (case side1 => repeat (first | exact (Kd.R_reads' HO_9.out).2.2 | (with_reducible refine Kd.C_alloc ?_ _) | (with_reducible refine Kd.C_drewN ?_ _) | (with_reducible refine Kd.C_drew ?_))); (case side2 => rw [show t535.length = t520.length from (Kd.R_reads' HO_9.out).1.symm]; exact (Kd.R_reads' HO_9.out).2.1); rintro e w' ⟨rfl, ⟨nd, rfl⟩⟩; refine ⟨_, rfl, ?_⟩))
          go_ret
          exact ⟨by first | rfl | (simp [errW_none, errW_some] <;> rfl) | (simp [*, errW_none, errW_some] <;> rfl), by repeat (first | (with_reducible first | exact HB.out | apply below_alloc | apply pw_below_drewN | apply below_drew1 | refine below_set ?_ GE498.out | refine below_set ?_ GE499.out | refine below_set ?_ GE517.out) | exact HB.out)⟩
         ·rw [if_neg c68] at H
          have c68b0 : decide (t536 < 0) = false := decide_eq_false c68
          clear c68
          by_cases c71 : t536 = t534
          ·rw [if_pos c71] at H
           have c71b0 : (t536 == t534) = true := beq_iff_eq.mpr c71
           have c71b1 : (t536 != t534) = false := bne_eq_false_iff_eq.mpr c71
           clear c71
           replace H := Option.bind_eq_some_iff.mp H
           obtain ⟨⟨t537, t538, t539⟩, A720, H⟩ := H
           replace H : ((laws_toLeaper.f a1_0 a1_1).bind fun bt542 => ((impl_DeadEnds.f kj48 t537 t538 t539 bt542.1 bt542.2).bind fun bt544 => ((laws_eqIntS.f kj48 bt544.1 t508).bind fun t548 => (if t548 = true then (laws_FnExactDeadEnds.j2 kj48 t535 t534 (bt544.2 != t511)) else (laws_FnExactDeadEnds.j2 kj48 t535 t534 true))))) = some r := H
           have A72 := Aside0.mk A720
           clear A720
           replace H := Option.bind_eq_some_iff.mp H
           obtain ⟨⟨t542, t543⟩, A730, H⟩ := H
           replace H : ((impl_DeadEnds.f kj48 t537 t538 t539 t542 t543).bind fun bt544 => ((laws_eqIntS.f kj48 bt544.1 t508).bind fun t548 => (if t548 = true then (laws_FnExactDeadEnds.j2 kj48 t535 t534 (bt544.2 != t511)) else (laws_FnExactDeadEnds.j2 kj48 t535 t534 true)))) = some r := H
           have A73 := Aside0.mk A730
           clear A730
           replace H := Option.bind_eq_some_iff.mp H
           obtain ⟨⟨t544, t547⟩, A740, H⟩ := H
           replace H : ((laws_eqIntS.f kj48 t544 t508).bind fun t548 => (if t548 = true then (laws_FnExactDeadEnds.j2 kj48 t535 t534 (t547 != t511)) else (laws_FnExactDeadEnds.j2 kj48 t535 t534 true))) = some r := H
           have A74 := Aside0.mk A740
           clear A740
           have HC75 := Aside0.mk H
           clear H
           obtain ⟨Ao76, co76, eo76⟩ := Kd.R_slice HO_9.out
           subst eo76
           try go_wp2_with (first | ((with_reducible refine gate_callee (f := 23) rfl ?_); refine goesL_ (some 70) rfl rfl Try.func23 (by kernel_rfl) rfl #[.slice Ao76 t520.length co76, .int .i64 1] rfl (by (try simp only [List.map_toArray, List.map_cons, List.map_nil]); first | done | rfl | (simp only [List.length_drop, List.length_take]; rfl)) ?_; (with_reducible refine (laws_markIntS.calls kj48 (fun k_ => some k_ = (.slice Ao76 t520.length co76 : Value).ownBlock) (.slice Ao76 t520.length co76) t520 1 t534 t535 w _ ?side1 ?side2 A66.out).mono ?_); (case side1 => repeat (first | (with_reducible first | exact HB.out | apply below_alloc | apply pw_below_drewN | apply below_drew1 | refine below_set ?_ GE498.out | refine below_set ?_ GE499.out | refine below_set ?_ GE517.out) | exact HB.out)); (case side2 => exact Kd.R_tight rfl HO_9.out); rintro e w77 ⟨rfl, hy0, hb, hkp⟩; refine ⟨_, rfl, ?_⟩; have n0_ := Aside0.mk (Kd.R_mono (ok' := fun k_ => some k_ ≠ (.slice Ao76 t520.length co76 : Value).ownBlock ∧ some k_ ≠ (.slice Ao33 t532.length co33 : Value).ownBlock) (Kd.R_keptB (HO_6.out) hkp (fun k_ hk_ hs_ => (hk_.1) hs_)) (fun k_ hk_ => ⟨hk_.1.1, hk_.1.2⟩)); have n1_ := Aside0.mk (Kd.R_reok rfl hy0 (fun k_ e_ => HO_9.out.1 k_ e_)); have n2_ := Aside0.mk (Kd.R_mono (ok' := fun k_ => some k_ ≠ (v509 : Value).ownBlock ∧ some k_ ≠ (.slice Ao76 t520.length co76 : Value).ownBlock) (Kd.R_keptB (HO_518002.out) hkp (fun k_ hk_ hs_ => (hk_.2) hs_)) (fun k_ hk_ => ⟨hk_.1.1, hk_.1.2⟩)); have n3_ := Aside0.mk (blk_kept (by (with_reducible repeat (first | refine blk_drewN ?_ _ | refine blk_drew ?_ | refine blk_alloc ?_ _)); exact BK498.out) hkp (fun hs_ => (fun e_ => (Kd.R_ne HO_9.out BK498.out (by decide)) e_) hs_)); have n4_ := Aside0.mk (blk_kept (by (with_reducible repeat (first | refine blk_drewN ?_ _ | refine blk_drew ?_ | refine blk_alloc ?_ _)); exact BK499.out) hkp (fun hs_ => (fun e_ => (Kd.R_ne HO_9.out BK499.out (by decide)) e_) hs_)); have n5_ := Aside0.mk (blk_kept (by (with_reducible repeat (first | refine blk_drewN ?_ _ | refine blk_drew ?_ | refine blk_alloc ?_ _)); exact BK517.out) hkp (fun hs_ => (fun e_ => (Kd.R_ne HO_9.out BK517.out (by decide)) e_) hs_)); have n6_ := Aside0.mk (hb); clear HO_6; clear HO_9; clear HO_518002; clear BK498; clear BK499; clear BK517; clear HB; have HO_6 := n0_; have HO_9 := n1_; have HO_518002 := n2_; have BK498 := n3_; have BK499 := n4_; have BK517 := n5_; have HB := n6_; clear n0_ n1_ n2_ n3_ n4_ n5_ n6_; (try clear hb); (try clear hkp); (try clear hy0)) | ((with_reducible refine gate_callee (f := 24) rfl ?_); refine goesL_ (some 73) rfl rfl Try.func24 (by kernel_rfl) rfl #[.slice Ao76 t535.length co76, .int .i64 1] rfl (by (try simp only [List.map_toArray, List.map_cons, List.map_nil]); first | done | (rw [show t535.length = t520.length from (Kd.R_reads' HO_9.out).1.symm] <;> rfl) | rfl | (simp only [List.length_drop, List.length_take]; rfl)) ?_; (with_reducible refine (laws_heldIntS.calls kj48 _ _ t535 1 t536 _ ?side1 ?side2 A67.out).mono ?_); (case side1 => repeat (first | exact (Kd.R_reads' HO_9.out).2.2 | (with_reducible refine Kd.C_alloc ?_ _) | (with_reducible refine Kd.C_drewN ?_ _) | (with_reducible refine Kd.C_drew ?_))); (case side2 => rw [show t535.length = t520.length from (Kd.R_reads' HO_9.out).1.symm]; exact (Kd.R_reads' HO_9.out).2.1); rintro e w' ⟨rfl, ⟨nd, rfl⟩⟩; refine ⟨_, rfl, ?_⟩))
           (try (rw [drewN_self w77]; generalize hq_ : World.drewN w77 _ = w77; have n0_ : Aside0 (Kd.R (Kd.int .i64) 3 w77 w.heap.size (fun k_ => (some k_ ≠ (v509 : Value).ownBlock ∧ some k_ ≠ (.slice Ao76 t520.length co76 : Value).ownBlock)) (.slice Ao33 t532.length co33) t532) := ⟨by rw [← hq_]; exact (by (with_reducible repeat (first | apply Kd.R_alloc | apply Kd.R_drewN | apply Kd.R_drew)); exact HO_518002.out)⟩; have n1_ : Aside0 (Kd.R (Kd.int .i64) 3 w77 w.heap.size (fun k_ => (some k_ ≠ (.slice Ao76 t520.length co76 : Value).ownBlock ∧ some k_ ≠ (.slice Ao33 t532.length co33 : Value).ownBlock)) v509 t508) := ⟨by rw [← hq_]; exact (by (with_reducible repeat (first | apply Kd.R_alloc | apply Kd.R_drewN | apply Kd.R_drew)); exact HO_6.out)⟩; have n2_ : Aside0 (Kd.R (Kd.int .i64) 3 w77 w.heap.size (fun k_ => (some k_ ≠ (v509 : Value).ownBlock ∧ some k_ ≠ (.slice Ao33 t532.length co33 : Value).ownBlock)) (.slice Ao76 t520.length co76) t535) := ⟨by rw [← hq_]; exact (by (with_reducible repeat (first | apply Kd.R_alloc | apply Kd.R_drewN | apply Kd.R_drew)); exact HO_9.out)⟩; have n3_ : Aside0 (w77.heap[gb498]? = some (.cells #[.int .i64 a0_0, .int .i64 a0_1, .slice A0_2 l0_2.length c0_2] 24 (0, 0))) := ⟨by rw [← hq_]; exact (by (with_reducible repeat (first | refine blk_drewN ?_ _ | refine blk_drew ?_ | refine blk_alloc ?_ _)); exact BK498.out)⟩; have n4_ : Aside0 (w77.heap[gb499]? = some (.cells #[.int .i64 a1_0, .int .i64 a1_1] 26 (0, 0))) := ⟨by rw [← hq_]; exact (by (with_reducible repeat (first | refine blk_drewN ?_ _ | refine blk_drew ?_ | refine blk_alloc ?_ _)); exact BK499.out)⟩; have n5_ : Aside0 (w77.heap[gb517]? = some (.cells #[.int .i64 t512, .int .i64 t513, .slice Ao33 t532.length co33] 30 (0, 0))) := ⟨by rw [← hq_]; exact (by (with_reducible repeat (first | refine blk_drewN ?_ _ | refine blk_drew ?_ | refine blk_alloc ?_ _)); exact BK517.out)⟩; have n6_ : Aside0 (Below w.heap.size w w77) := ⟨by rw [← hq_]; exact (by repeat (first | (with_reducible first | exact HB.out | apply below_alloc | apply pw_below_drewN | apply below_drew1 | refine below_set ?_ GE498.out | refine below_set ?_ GE499.out | refine below_set ?_ GE517.out) | exact HB.out))⟩; clear HO_518002 HO_6 HO_9 BK498 BK499 BK517 HB hq_; have HO_518002 := n0_; have HO_6 := n1_; have HO_9 := n2_; have BK498 := n3_; have BK499 := n4_; have BK517 := n5_; have HB := n6_; clear n0_ n1_ n2_ n3_ n4_ n5_ n6_))
           have n0_ := Aside0.mk (Kd.R_drew HO_6.out)
           have n1_ := Aside0.mk (Kd.R_drew HO_9.out)
           have n2_ := Aside0.mk (Kd.R_drew HO_518002.out)
           have n3_ := Aside0.mk (blk_drew BK498.out)
           have n4_ := Aside0.mk (blk_drew BK499.out)
           have n5_ := Aside0.mk (blk_drew BK517.out)
           have n6_ := Aside0.mk (below_drew1 HB.out)
           clear HO_6
           clear HO_9
           clear HO_518002
           clear BK498
           clear BK499
           clear BK517
           clear HB
           have HO_6 := n0_
           have HO_9 := n1_
           have HO_518002 := n2_
           have BK498 := n3_
           have BK499 := n4_
           have BK517 := n5_
           have HB := n6_
           clear n0_ n1_ n2_ n3_ n4_ n5_ n6_
           refine start_ (n := 10) (S := fun w' => w'.cell? ⟨gb498, 0, none⟩ = some (.int .i64 a0_0) ∧ w'.cell? ⟨gb498, 1, none⟩ = some (.int .i64 a0_1) ∧ w'.cell? ⟨gb498, 2, none⟩ = some (.slice A0_2 l0_2.length c0_2) ∧ w'.cell? ⟨gb499, 0, none⟩ = some (.int .i64 a1_0) ∧ w'.cell? ⟨gb499, 1, none⟩ = some (.int .i64 a1_1)) (ds := []) #[false, false, false, false, false, false, false, false, false, false] (by kernel_rfl) rfl rfl ⟨(blk_cell BK498.out 0).trans rfl, (blk_cell BK498.out 1).trans rfl, (blk_cell BK498.out 2).trans rfl, (blk_cell BK499.out 0).trans rfl, (blk_cell BK499.out 1).trans rfl⟩ (fun hHeld => ?_); refine with_tabW laws_FnExactDeadEnds.tab24 laws_FnExactDeadEnds.bits24 (fun HT_ HW_ => ?_)
           generalize w77.drew = w78 at HO_6 HO_9 HO_518002 BK498 BK499 BK517 HB hHeld ⊢
           refine take_ (i := 0) (N := some 80) (v := ?_) (a' := ?_) #[true, false, false, false, false, false, false, false, false, false] rfl rfl (take_ofW HT_.out HW_.out (by kernel_rfl)) (fun _ _ _ h => h) (Or.inl ⟨by rfl, ?_⟩) hHeld ?_ ?_
           rotate_left
           ·rintro w' ⟨s0, s1, s2, s3, s4⟩
            go_simp
            with_reducible rfl
           rotate_left
           ·simp only [Act.put, List.setIfInBounds_toArray, List.set_cons_zero, List.set_cons_succ, i64_w, i32_w]
            rfl
           refine take_ (i := 2) (N := some 82) (v := ?_) (a' := ?_) #[true, false, true, false, false, false, false, false, false, false] rfl rfl (take_ofW HT_.out HW_.out (by kernel_rfl)) (fun _ _ _ h => h) (Or.inl ⟨by rfl, ?_⟩) hHeld ?_ ?_
           rotate_left
           ·rintro w' ⟨s0, s1, s2, s3, s4⟩
            go_simp
            with_reducible rfl
           rotate_left
           ·simp only [Act.put, List.setIfInBounds_toArray, List.set_cons_zero, List.set_cons_succ, i64_w, i32_w]
            rfl
           refine one_ (i := 1) (N := some 81) #[true, true, true, false, false, false, false, false, false, false] rfl rfl (one_of HT_.out (by kernel_rfl)) (by decide) (fun K hK => ?_)
           refine goes_ Try.func17 (by kernel_rfl) rfl #[.agg #[.int .i64 a0_0, .int .i64 a0_1, .slice A0_2 l0_2.length c0_2]] (by rfl) rfl rfl (by (try simp only [List.map_toArray, List.map_cons, List.map_nil]); first | done | rfl | (simp only [List.length_drop, List.length_take]; rfl)) ?_
           with_reducible refine (laws_toBoard.calls kj48 a0_0 a0_1 _ _ l0_2 t537 t538 t539 _ ?side1 ?side2 A72.out).mono ?_
           (case side1 => repeat (first | exact (Kd.C_below HR0_2.out HB.out) | (with_reducible refine Kd.C_alloc ?_ _) | (with_reducible refine Kd.C_drewN ?_ _) | (with_reducible refine Kd.C_drew ?_)))
           (case side2 => exact HC0_2.out)
           rintro e w79 ⟨v540, rfl, ho0, hb⟩
           refine ⟨_, rfl, ?_⟩
           have n0_ := Aside0.mk (Kd.R_elder' (by (with_reducible repeat (first | apply Kd.R_alloc | apply Kd.R_drewN | apply Kd.R_drew)); exact HO_6.out) (Kd.R_base ho0) hb)
           have n1_ := Aside0.mk (Kd.R_elder' (by (with_reducible repeat (first | apply Kd.R_alloc | apply Kd.R_drewN | apply Kd.R_drew)); exact HO_9.out) (Kd.R_base ho0) hb)
           have n2_ := Aside0.mk (Kd.R_elder' (by (with_reducible repeat (first | apply Kd.R_alloc | apply Kd.R_drewN | apply Kd.R_drew)); exact HO_518002.out) (Kd.R_base ho0) hb)
           have n3_ := Aside0.mk (Kd.R_lower (Kd.R_new' (Kd.R_new' (Kd.R_new' ho0 (Kd.R_lt (by (with_reducible repeat (first | apply Kd.R_alloc | apply Kd.R_drewN | apply Kd.R_drew)); exact HO_6.out))) (Kd.R_lt (by (with_reducible repeat (first | apply Kd.R_alloc | apply Kd.R_drewN | apply Kd.R_drew)); exact HO_9.out))) (Kd.R_lt (by (with_reducible repeat (first | apply Kd.R_alloc | apply Kd.R_drewN | apply Kd.R_drew)); exact HO_518002.out))) (below_size (by repeat (first | (with_reducible first | exact HB.out | apply below_alloc | apply pw_below_drewN | apply below_drew1 | refine below_set ?_ GE498.out | refine below_set ?_ GE499.out | refine below_set ?_ GE517.out) | exact HB.out))))
           have n4_ := Aside0.mk (blk_below (g := gb498) (o := .cells #[.int .i64 a0_0, .int .i64 a0_1, .slice A0_2 l0_2.length c0_2] 24 (0, 0)) (by (with_reducible repeat (first | refine blk_drewN ?_ _ | refine blk_drew ?_ | refine blk_alloc ?_ _)); exact BK498.out) hb)
           have n5_ := Aside0.mk (blk_below (g := gb499) (o := .cells #[.int .i64 a1_0, .int .i64 a1_1] 26 (0, 0)) (by (with_reducible repeat (first | refine blk_drewN ?_ _ | refine blk_drew ?_ | refine blk_alloc ?_ _)); exact BK499.out) hb)
           have n6_ := Aside0.mk (blk_below (g := gb517) (o := .cells #[.int .i64 t512, .int .i64 t513, .slice Ao33 t532.length co33] 30 (0, 0)) (by (with_reducible repeat (first | refine blk_drewN ?_ _ | refine blk_drew ?_ | refine blk_alloc ?_ _)); exact BK517.out) hb)
           have n7_ := Aside0.mk (below_step (by repeat (first | (with_reducible first | exact HB.out | apply below_alloc | apply pw_below_drewN | apply below_drew1 | refine below_set ?_ GE498.out | refine below_set ?_ GE499.out | refine below_set ?_ GE517.out) | exact HB.out)) hb)
           clear HO_6
           clear HO_9
           clear HO_518002
           clear BK498
           clear BK499
           clear BK517
           clear HB
           have HO_6 := n0_
           have HO_9 := n1_
           have HO_518002 := n2_
           have HO541 := n3_
           have BK498 := n4_
           have BK499 := n5_
           have BK517 := n6_
           have HB := n7_
           clear n0_ n1_ n2_ n3_ n4_ n5_ n6_ n7_
           (try clear hb)
           (try clear hb2)
           (try clear hk)
           (try clear hi)
           (try clear ho0)
           (try clear hna_)
           (try clear hnb_)
           refine hK.out _ _ ⟨(blk_cell BK498.out 0).trans rfl, (blk_cell BK498.out 1).trans rfl, (blk_cell BK498.out 2).trans rfl, (blk_cell BK499.out 0).trans rfl, (blk_cell BK499.out 1).trans rfl⟩ (fun hHeld => ?_)
           clear hK K
           refine norm_ (a' := ?_) ?_ ?_
           rotate_left
           ·show Act.put _ (some 81) _ = _
            simp only [Act.put, List.setIfInBounds_toArray, List.set_cons_zero, List.set_cons_succ, i64_w, i32_w]
            rfl
           refine one_ (i := 3) (N := some 83) #[true, true, true, true, false, false, false, false, false, false] rfl rfl (one_of HT_.out (by kernel_rfl)) (by decide) (fun K hK => ?_)
           refine goes_ Try.func18 (by kernel_rfl) rfl #[.agg #[.int .i64 a1_0, .int .i64 a1_1]] (by rfl) rfl rfl (by (try simp only [List.map_toArray, List.map_cons, List.map_nil]); first | done | rfl | (simp only [List.length_drop, List.length_take]; rfl)) ?_
           with_reducible refine (laws_toLeaper.calls a1_0 a1_1 t542 t543 _ A73.out).mono ?_
           rintro e w80 ⟨rfl, hb⟩
           refine ⟨_, rfl, ?_⟩
           have n0_ := Aside0.mk (Kd.R_below (by (with_reducible repeat (first | apply Kd.R_alloc | apply Kd.R_drewN | apply Kd.R_drew)); exact HO_6.out) hb)
           have n1_ := Aside0.mk (Kd.R_below (by (with_reducible repeat (first | apply Kd.R_alloc | apply Kd.R_drewN | apply Kd.R_drew)); exact HO_9.out) hb)
           have n2_ := Aside0.mk (Kd.R_below (by (with_reducible repeat (first | apply Kd.R_alloc | apply Kd.R_drewN | apply Kd.R_drew)); exact HO_518002.out) hb)
           have n3_ := Aside0.mk (Kd.R_below (by (with_reducible repeat (first | apply Kd.R_alloc | apply Kd.R_drewN | apply Kd.R_drew)); exact HO541.out) hb)
           have n4_ := Aside0.mk (blk_below (g := gb498) (o := .cells #[.int .i64 a0_0, .int .i64 a0_1, .slice A0_2 l0_2.length c0_2] 24 (0, 0)) (by (with_reducible repeat (first | refine blk_drewN ?_ _ | refine blk_drew ?_ | refine blk_alloc ?_ _)); exact BK498.out) hb)
           have n5_ := Aside0.mk (blk_below (g := gb499) (o := .cells #[.int .i64 a1_0, .int .i64 a1_1] 26 (0, 0)) (by (with_reducible repeat (first | refine blk_drewN ?_ _ | refine blk_drew ?_ | refine blk_alloc ?_ _)); exact BK499.out) hb)
           have n6_ := Aside0.mk (blk_below (g := gb517) (o := .cells #[.int .i64 t512, .int .i64 t513, .slice Ao33 t532.length co33] 30 (0, 0)) (by (with_reducible repeat (first | refine blk_drewN ?_ _ | refine blk_drew ?_ | refine blk_alloc ?_ _)); exact BK517.out) hb)
           have n7_ := Aside0.mk (below_step (by repeat (first | (with_reducible first | exact HB.out | apply below_alloc | apply pw_below_drewN | apply below_drew1 | refine below_set ?_ GE498.out | refine below_set ?_ GE499.out | refine below_set ?_ GE517.out) | exact HB.out)) hb)
           clear HO_6
           clear HO_9
           clear HO_518002
           clear HO541
           clear BK498
           clear BK499
           clear BK517
           clear HB
           have HO_6 := n0_
           have HO_9 := n1_
           have HO_518002 := n2_
           have HO541 := n3_
           have BK498 := n4_
           have BK499 := n5_
           have BK517 := n6_
           have HB := n7_
           clear n0_ n1_ n2_ n3_ n4_ n5_ n6_ n7_
           (try clear hb)
           (try clear hb2)
           (try clear hk)
           (try clear hi)
           (try clear hna_)
           (try clear hnb_)
           obtain ⟨Ao81, co81, eo81⟩ := Kd.R_slice HO541.out
           (first | subst eo81 | (injection eo81 with f1_ f2_ f3_; have f4_ := f1_.symm; have f5_ := f3_.symm; clear f1_ f2_ f3_; subst f4_; subst f5_))
           refine hK.out _ _ ⟨(blk_cell BK498.out 0).trans rfl, (blk_cell BK498.out 1).trans rfl, (blk_cell BK498.out 2).trans rfl, (blk_cell BK499.out 0).trans rfl, (blk_cell BK499.out 1).trans rfl⟩ (fun hHeld => ?_)
           clear hK K
           refine norm_ (a' := ?_) ?_ ?_
           rotate_left
           ·show Act.put _ (some 83) _ = _
            simp only [Act.put, List.setIfInBounds_toArray, List.set_cons_zero, List.set_cons_succ, i64_w, i32_w]
            rfl
           refine one_ (i := 4) (N := some 84) #[true, true, true, true, true, false, false, false, false, false] rfl rfl (one_of HT_.out (by kernel_rfl)) (by decide) (fun K hK => ?_)
           refine goes_ Try.func31 (by kernel_rfl) rfl #[.agg #[.int .i64 t537, .int .i64 t538, .slice Ao81 t539.length co81], .agg #[.int .i64 t542, .int .i64 t543]] (by rfl) rfl rfl (by (try simp only [List.map_toArray, List.map_cons, List.map_nil]); first | done | rfl | (simp only [List.length_drop, List.length_take]; rfl)) ?_
           with_reducible refine (impl_DeadEnds.calls kj48 t537 t538 _ _ t539 t542 t543 t544 t547 _ ?side1 ?side2 A74.out).mono ?_
           (case side1 => repeat (first | exact (Kd.R_reads' HO541.out).2.2 | (with_reducible refine Kd.C_alloc ?_ _) | (with_reducible refine Kd.C_drewN ?_ _) | (with_reducible refine Kd.C_drew ?_)))
           (case side2 => exact (Kd.R_reads' HO541.out).2.1)
           rintro e w82 ⟨v545, rfl, ho0, hb⟩
           refine ⟨_, rfl, ?_⟩
           have n0_ := Aside0.mk (Kd.R_elder' (by (with_reducible repeat (first | apply Kd.R_alloc | apply Kd.R_drewN | apply Kd.R_drew)); exact HO_6.out) (Kd.R_base ho0) hb)
           have n1_ := Aside0.mk (Kd.R_elder' (by (with_reducible repeat (first | apply Kd.R_alloc | apply Kd.R_drewN | apply Kd.R_drew)); exact HO_9.out) (Kd.R_base ho0) hb)
           have n2_ := Aside0.mk (Kd.R_elder' (by (with_reducible repeat (first | apply Kd.R_alloc | apply Kd.R_drewN | apply Kd.R_drew)); exact HO_518002.out) (Kd.R_base ho0) hb)
           have n3_ := Aside0.mk (Kd.R_elder' (by (with_reducible repeat (first | apply Kd.R_alloc | apply Kd.R_drewN | apply Kd.R_drew)); exact HO541.out) (Kd.R_base ho0) hb)
           have n4_ := Aside0.mk (Kd.R_lower (Kd.R_new' (Kd.R_new' (Kd.R_new' (Kd.R_new' ho0 (Kd.R_lt (by (with_reducible repeat (first | apply Kd.R_alloc | apply Kd.R_drewN | apply Kd.R_drew)); exact HO_6.out))) (Kd.R_lt (by (with_reducible repeat (first | apply Kd.R_alloc | apply Kd.R_drewN | apply Kd.R_drew)); exact HO_9.out))) (Kd.R_lt (by (with_reducible repeat (first | apply Kd.R_alloc | apply Kd.R_drewN | apply Kd.R_drew)); exact HO_518002.out))) (Kd.R_lt (by (with_reducible repeat (first | apply Kd.R_alloc | apply Kd.R_drewN | apply Kd.R_drew)); exact HO541.out))) (below_size (by repeat (first | (with_reducible first | exact HB.out | apply below_alloc | apply pw_below_drewN | apply below_drew1 | refine below_set ?_ GE498.out | refine below_set ?_ GE499.out | refine below_set ?_ GE517.out) | exact HB.out))))
           have n5_ := Aside0.mk (blk_below (g := gb498) (o := .cells #[.int .i64 a0_0, .int .i64 a0_1, .slice A0_2 l0_2.length c0_2] 24 (0, 0)) (by (with_reducible repeat (first | refine blk_drewN ?_ _ | refine blk_drew ?_ | refine blk_alloc ?_ _)); exact BK498.out) hb)
           have n6_ := Aside0.mk (blk_below (g := gb499) (o := .cells #[.int .i64 a1_0, .int .i64 a1_1] 26 (0, 0)) (by (with_reducible repeat (first | refine blk_drewN ?_ _ | refine blk_drew ?_ | refine blk_alloc ?_ _)); exact BK499.out) hb)
           have n7_ := Aside0.mk (blk_below (g := gb517) (o := .cells #[.int .i64 t512, .int .i64 t513, .slice Ao33 t532.length co33] 30 (0, 0)) (by (with_reducible repeat (first | refine blk_drewN ?_ _ | refine blk_drew ?_ | refine blk_alloc ?_ _)); exact BK517.out) hb)
           have n8_ := Aside0.mk (below_step (by repeat (first | (with_reducible first | exact HB.out | apply below_alloc | apply pw_below_drewN | apply below_drew1 | refine below_set ?_ GE498.out | refine below_set ?_ GE499.out | refine below_set ?_ GE517.out) | exact HB.out)) hb)
           clear HO_6
           clear HO_9
           clear HO_518002
           clear HO541
           clear BK498
           clear BK499
           clear BK517
           clear HB
           have HO_6 := n0_
           have HO_9 := n1_
           have HO_518002 := n2_
           have HO541 := n3_
           have HO546 := n4_
           have BK498 := n5_
           have BK499 := n6_
           have BK517 := n7_
           have HB := n8_
           clear n0_ n1_ n2_ n3_ n4_ n5_ n6_ n7_ n8_
           (try clear hb)
           (try clear hb2)
           (try clear hk)
           (try clear hi)
           (try clear ho0)
           (try clear hna_)
           (try clear hnb_)
           refine hK.out _ _ ⟨(blk_cell BK498.out 0).trans rfl, (blk_cell BK498.out 1).trans rfl, (blk_cell BK498.out 2).trans rfl, (blk_cell BK499.out 0).trans rfl, (blk_cell BK499.out 1).trans rfl⟩ (fun hHeld => ?_)
           clear hK K
           refine norm_ (a' := ?_) ?_ ?_
           rotate_left
           ·show Act.put _ (some 84) _ = _
            simp only [Act.put, List.setIfInBounds_toArray, List.set_cons_zero, List.set_cons_succ, i64_w, i32_w]
            rfl
           refine pure_ (i := 5) (N := some 79) (v := ?_) (a' := ?_) #[true, true, true, true, true, true, false, false, false, false] rfl rfl (any_of HT_.out (by kernel_rfl)) (fun _ _ _ h => h) (Or.inl ⟨by rfl, ?_⟩) ?_ ?_
           rotate_left
           ·intro w'
            go_simp
            with_reducible rfl
           rotate_left
           ·simp only [Act.put, List.setIfInBounds_toArray, List.set_cons_zero, List.set_cons_succ, i64_w, i32_w]
            rfl
           refine pure_ (i := 6) (N := some 85) (v := ?_) (a' := ?_) #[true, true, true, true, true, true, true, false, false, false] rfl rfl (any_of HT_.out (by kernel_rfl)) (fun _ _ _ h => h) (Or.inl ⟨by rfl, ?_⟩) ?_ ?_
           rotate_left
           ·intro w'
            go_simp
            with_reducible rfl
           rotate_left
           ·simp only [Act.put, List.setIfInBounds_toArray, List.set_cons_zero, List.set_cons_succ, i64_w, i32_w]
            rfl
           refine pure_ (i := 7) (N := some 86) (v := ?_) (a' := ?_) #[true, true, true, true, true, true, true, true, false, false] rfl rfl (any_of HT_.out (by kernel_rfl)) (fun _ _ _ h => h) (Or.inl ⟨by rfl, ?_⟩) ?_ ?_
           rotate_left
           ·intro w'
            go_simp
            with_reducible rfl
           rotate_left
           ·simp only [Act.put, List.setIfInBounds_toArray, List.set_cons_zero, List.set_cons_succ, i64_w, i32_w]
            rfl
           refine pure_ (i := 8) (N := some 14) (v := ?_) (a' := ?_) #[true, true, true, true, true, true, true, true, true, false] rfl rfl (any_of HT_.out (by kernel_rfl)) (fun _ _ _ h => h) (Or.inl ⟨by rfl, ?_⟩) ?_ ?_
           rotate_left
           ·intro w'
            go_simp
            with_reducible rfl
           rotate_left
           ·simp only [Act.put, List.setIfInBounds_toArray, List.set_cons_zero, List.set_cons_succ, i64_w, i32_w]
            rfl
           refine pure_ (i := 9) (N := some 15) (v := ?_) (a' := ?_) #[true, true, true, true, true, true, true, true, true, true] rfl rfl (any_of HT_.out (by kernel_rfl)) (fun _ _ _ h => h) (Or.inl ⟨by rfl, ?_⟩) ?_ ?_
           rotate_left
           ·intro w'
            go_simp
            with_reducible rfl
           rotate_left
           ·simp only [Act.put, List.setIfInBounds_toArray, List.set_cons_zero, List.set_cons_succ, i64_w, i32_w]
            rfl
           refine done_ (done_of HT_.out (by kernel_rfl)) ?_
           go_upto_region 25 with (fail)
           go_cut [95] (fun v95 wc => ∃ (kq : Nat) (x95_74 : Bool), v95 = .bool x95_74 ∧ Aside0 (laws_FnExactDeadEnds.j2 kq t535 t534 x95_74 = some r) ∧ Aside0 (kq ≤ kj48) ∧ Aside0 (Kd.R (Kd.int .i64) 3 wc w.heap.size (fun k_ => some k_ ≠ ((.slice Ao33 t532.length co33) : Value).ownBlock) (.slice Ao76 t520.length co76) t535) ∧ Aside0 (Kd.R (Kd.int .i64) 3 wc w.heap.size (fun k_ => some k_ ≠ ((.slice Ao76 t520.length co76) : Value).ownBlock) (.slice Ao33 t532.length co33) t532) ∧ Aside0 (wc.heap[gb498]? = some (.cells #[.int .i64 a0_0, .int .i64 a0_1, (.slice A0_2 l0_2.length c0_2)] 24 (0, 0))) ∧ Aside0 (wc.heap[gb499]? = some (.cells #[.int .i64 a1_0, .int .i64 a1_1] 26 (0, 0))) ∧ Aside0 (wc.heap[gb517]? = some (.cells #[.int .i64 t512, .int .i64 t513, (.slice Ao33 t532.length co33)] 30 (0, 0))) ∧ Aside0 (Below w.heap.size w wc))
           case first =>
            have H := HC75.out
            clear HC75
            replace H := Option.bind_eq_some_iff.mp H
            obtain ⟨t548, A830, H⟩ := H
            replace H : (if t548 = true then (laws_FnExactDeadEnds.j2 kj48 t535 t534 (t547 != t511)) else (laws_FnExactDeadEnds.j2 kj48 t535 t534 true)) = some r := H
            have A83 := Aside0.mk A830
            clear A830
            by_cases c84 : t548 = true
            ·subst c84
             have H1 : (laws_FnExactDeadEnds.j2 kj48 t535 t534 (t547 != t511)) = some r := by rw [if_pos rfl] at H; exact H
             clear H
             have H := H1
             clear H1
             have H' := Aside0.mk H
             clear H
             obtain ⟨Ao85, co85, eo85⟩ := Kd.R_slice HO546.out
             subst eo85
             obtain ⟨Ao86, co86, eo86⟩ := Kd.R_slice HO_6.out
             subst eo86
             go_wp2_with (first | ((with_reducible refine gate_callee (f := 20) rfl ?_); refine goesL_ (some 89) rfl rfl Try.func20 (by kernel_rfl) rfl #[.slice Ao85 t544.length co85, .slice Ao86 t508.length co86] rfl (by (try simp only [List.map_toArray, List.map_cons, List.map_nil]); first | done | rfl | (simp only [List.length_drop, List.length_take]; rfl)) ?_; (with_reducible refine (laws_eqIntS.calls kj48 _ _ t544 _ _ t508 true _ ?side1 ?side2 ?side3 ?side4 A83.out).mono ?_); (case side1 => repeat (first | exact (Kd.R_reads' HO546.out).2.2 | (with_reducible refine Kd.C_alloc ?_ _) | (with_reducible refine Kd.C_drewN ?_ _) | (with_reducible refine Kd.C_drew ?_))); (case side2 => exact (Kd.R_reads' HO546.out).2.1); (case side3 => repeat (first | exact (Kd.R_reads' HO_6.out).2.2 | (with_reducible refine Kd.C_alloc ?_ _) | (with_reducible refine Kd.C_drewN ?_ _) | (with_reducible refine Kd.C_drew ?_))); (case side4 => exact (Kd.R_reads' HO_6.out).2.1); rintro e w' ⟨rfl, ⟨nd, rfl⟩⟩; refine ⟨_, rfl, ?_⟩))
             go_meet
             case rel => exact ⟨_, ((t547 != t511)), (by first | rfl | (simp; done) | (simp [*]; done)), H', ⟨by have := HJ15.out; have := HJ48.out; first | omega | exact Nat.le_refl _⟩, ⟨by (try simp only [hl518002_48]); (with_reducible repeat (first | apply Kd.R_alloc | apply Kd.R_drewN | apply Kd.R_drew)); exact Kd.R_mono HO_9.out (fun _ hk => hk.1.1.2)⟩, ⟨by (try simp only [hl518002_48]); (with_reducible repeat (first | apply Kd.R_alloc | apply Kd.R_drewN | apply Kd.R_drew)); exact Kd.R_mono HO_518002.out (fun _ hk => hk.1.1.2)⟩, ⟨by (try simp only [hl518002_48]); (with_reducible repeat (first | refine blk_drewN ?_ _ | refine blk_drew ?_ | refine blk_alloc ?_ _)); exact BK498.out⟩, ⟨by (try simp only [hl518002_48]); (with_reducible repeat (first | refine blk_drewN ?_ _ | refine blk_drew ?_ | refine blk_alloc ?_ _)); exact BK499.out⟩, ⟨by (try simp only [hl518002_48]); (with_reducible repeat (first | refine blk_drewN ?_ _ | refine blk_drew ?_ | refine blk_alloc ?_ _)); exact BK517.out⟩, ⟨by repeat (first | (with_reducible first | exact HB.out | apply below_alloc | apply pw_below_drewN | apply below_drew1 | refine below_set ?_ GE498.out | refine below_set ?_ GE499.out | refine below_set ?_ GE517.out) | exact HB.out)⟩⟩
            ·replace c84 := Bool.eq_false_iff.mpr c84
             subst c84
             have H1 : (laws_FnExactDeadEnds.j2 kj48 t535 t534 true) = some r := by rw [if_neg (show ¬ (false = true) by decide)] at H; exact H
             clear H
             have H := H1
             clear H1
             have H' := Aside0.mk H
             clear H
             obtain ⟨Ao87, co87, eo87⟩ := Kd.R_slice HO546.out
             subst eo87
             obtain ⟨Ao88, co88, eo88⟩ := Kd.R_slice HO_6.out
             subst eo88
             go_wp2_with (first | ((with_reducible refine gate_callee (f := 20) rfl ?_); refine goesL_ (some 89) rfl rfl Try.func20 (by kernel_rfl) rfl #[.slice Ao87 t544.length co87, .slice Ao88 t508.length co88] rfl (by (try simp only [List.map_toArray, List.map_cons, List.map_nil]); first | done | rfl | (simp only [List.length_drop, List.length_take]; rfl)) ?_; (with_reducible refine (laws_eqIntS.calls kj48 _ _ t544 _ _ t508 false _ ?side1 ?side2 ?side3 ?side4 A83.out).mono ?_); (case side1 => repeat (first | exact (Kd.R_reads' HO546.out).2.2 | (with_reducible refine Kd.C_alloc ?_ _) | (with_reducible refine Kd.C_drewN ?_ _) | (with_reducible refine Kd.C_drew ?_))); (case side2 => exact (Kd.R_reads' HO546.out).2.1); (case side3 => repeat (first | exact (Kd.R_reads' HO_6.out).2.2 | (with_reducible refine Kd.C_alloc ?_ _) | (with_reducible refine Kd.C_drewN ?_ _) | (with_reducible refine Kd.C_drew ?_))); (case side4 => exact (Kd.R_reads' HO_6.out).2.1); rintro e w' ⟨rfl, ⟨nd, rfl⟩⟩; refine ⟨_, rfl, ?_⟩))
             go_meet
             case rel => exact ⟨_, (true), (by first | rfl | (simp; done) | (simp [*]; done)), H', ⟨by have := HJ15.out; have := HJ48.out; first | omega | exact Nat.le_refl _⟩, ⟨by (try simp only [hl518002_48]); (with_reducible repeat (first | apply Kd.R_alloc | apply Kd.R_drewN | apply Kd.R_drew)); exact Kd.R_mono HO_9.out (fun _ hk => hk.1.1.2)⟩, ⟨by (try simp only [hl518002_48]); (with_reducible repeat (first | apply Kd.R_alloc | apply Kd.R_drewN | apply Kd.R_drew)); exact Kd.R_mono HO_518002.out (fun _ hk => hk.1.1.2)⟩, ⟨by (try simp only [hl518002_48]); (with_reducible repeat (first | refine blk_drewN ?_ _ | refine blk_drew ?_ | refine blk_alloc ?_ _)); exact BK498.out⟩, ⟨by (try simp only [hl518002_48]); (with_reducible repeat (first | refine blk_drewN ?_ _ | refine blk_drew ?_ | refine blk_alloc ?_ _)); exact BK499.out⟩, ⟨by (try simp only [hl518002_48]); (with_reducible repeat (first | refine blk_drewN ?_ _ | refine blk_drew ?_ | refine blk_alloc ?_ _)); exact BK517.out⟩, ⟨by repeat (first | (with_reducible first | exact HB.out | apply below_alloc | apply pw_below_drewN | apply below_drew1 | refine below_set ?_ GE498.out | refine below_set ?_ GE499.out | refine below_set ?_ GE517.out) | exact HB.out)⟩⟩
           case rest =>
            clear HC75
            try clear c1; try clear c2; try clear p2; try clear c3; try clear c4; try clear c4b0; try clear c5; try clear c6; try clear c7; try clear c8; try clear c15; try clear c17; try clear c18; try clear c19; try clear c20; try clear c21; try clear c22; try clear c23; try clear c24; try clear c30; try clear c31; try clear c39; try clear c44; try clear c47; try clear c54; try clear c55; try clear c58; try clear c58b0; try clear c60; try clear c65; try clear c68; try clear c68b0; try clear c71; try clear c71b0; try clear c71b1; try clear c84; try clear hcz20_0; try clear hcz20_1; try clear hcz20_2; try clear hcz27_0
            try clear hcz27_1; try clear hcz27_2; try clear hcz32_0; try clear hcz32_1; try clear hcz32_2; try clear hcz56_0; try clear hcz56_1; try clear hcz56_2; try clear hcz8_0; try clear hcz8_1; try clear hcz8_2; try clear hfz20_0; try clear hfz20_1; try clear hfz20_2; try clear hfz27_0; try clear hfz27_1; try clear hfz27_2; try clear hfz32_0; try clear hfz32_1; try clear hfz32_2; try clear hfz56_0; try clear hfz56_1; try clear hfz56_2; try clear hfz8_0; try clear hfz8_1; try clear hfz8_2; try clear p2
            obtain ⟨kq, x95_74, rfl, HA, HJ74, HO_9, HO_518002, BK498, BK499, BK517, HB⟩ := hcut
            have hl9_74 := (Kd.R_reads' HO_9.out).1
            rw [hl9_74] at HO_9
            (try simp only [hl9_74])
            (try simp only [hl9_74] at BK498)
            (try simp only [hl9_74] at BK499)
            (try simp only [hl9_74] at BK517)
            (try simp only [hl9_74] at HO_518002)
            cases kq with
            | zero => exact absurd HA.out (by simp [laws_FnExactDeadEnds.j2])
            | succ kj74 =>
             have H := HA.out
             clear HA
             simp only [laws_FnExactDeadEnds.j2] at H
             by_cases c89 : x95_74 = true
             ·subst c89
              have H1 : (some false) = some r := by rw [if_pos rfl] at H; exact H
              clear H
              have H := H1
              clear H1
              obtain rfl := Option.some.inj H
              go_wp2
              go_ret
              exact ⟨by first | rfl | (simp [errW_none, errW_some] <;> rfl) | (simp [*, errW_none, errW_some] <;> rfl), by repeat (first | (with_reducible first | exact HB.out | apply below_alloc | apply pw_below_drewN | apply below_drew1 | refine below_set ?_ GE498.out | refine below_set ?_ GE499.out | refine below_set ?_ GE517.out) | exact HB.out)⟩
             ·replace c89 := Bool.eq_false_iff.mpr c89
              subst c89
              have H1 : ((laws_heldIntS.f kj74 t535 1).bind fun t549 => (if t549 < 0 then (some false) else (if t549 = t534 then (some true) else (some false)))) = some r := by rw [if_neg (show ¬ (false = true) by decide)] at H; exact H
              clear H
              have H := H1
              clear H1
              replace H := Option.bind_eq_some_iff.mp H
              obtain ⟨t549, A900, H⟩ := H
              replace H : (if t549 < 0 then (some false) else (if t549 = t534 then (some true) else (some false))) = some r := H
              have A90 := Aside0.mk A900
              clear A900
              by_cases c91 : t549 < 0
              ·rw [if_pos c91] at H
               have c91b0 : decide (t549 < 0) = true := decide_eq_true c91
               clear c91
               obtain rfl := Option.some.inj H
               go_wp2_with (first | ((with_reducible refine gate_callee (f := 24) rfl ?_); refine goesL_ (some 98) rfl rfl Try.func24 (by kernel_rfl) rfl #[.slice Ao76 t535.length co76, .int .i64 1] rfl (by (try simp only [List.map_toArray, List.map_cons, List.map_nil]); first | done | rfl | (simp only [List.length_drop, List.length_take]; rfl)) ?_; (with_reducible refine (laws_heldIntS.calls kj74 _ _ t535 1 t549 _ ?side1 ?side2 A90.out).mono ?_); (case side1 => repeat (first | exact (Kd.R_reads' HO_9.out).2.2 | (with_reducible refine Kd.C_alloc ?_ _) | (with_reducible refine Kd.C_drewN ?_ _) | (with_reducible refine Kd.C_drew ?_))); (case side2 => exact (Kd.R_reads' HO_9.out).2.1); rintro e w' ⟨rfl, ⟨nd, rfl⟩⟩; refine ⟨_, rfl, ?_⟩))
               go_ret
               exact ⟨by first | rfl | (simp [errW_none, errW_some] <;> rfl) | (simp [*, errW_none, errW_some] <;> rfl), by repeat (first | (with_reducible first | exact HB.out | apply below_alloc | apply pw_below_drewN | apply below_drew1 | refine below_set ?_ GE498.out | refine below_set ?_ GE499.out | refine below_set ?_ GE517.out) | exact HB.out)⟩
              ·rw [if_neg c91] at H
               have c91b0 : decide (t549 < 0) = false := decide_eq_false c91
               clear c91
               by_cases c92 : t549 = t534
               ·rw [if_pos c92] at H
                have c92b0 : (t549 == t534) = true := beq_iff_eq.mpr c92
                have c92b1 : (t549 != t534) = false := bne_eq_false_iff_eq.mpr c92
                clear c92
                obtain rfl := Option.some.inj H
                go_wp2_with (first | ((with_reducible refine gate_callee (f := 24) rfl ?_); refine goesL_ (some 98) rfl rfl Try.func24 (by kernel_rfl) rfl #[.slice Ao76 t535.length co76, .int .i64 1] rfl (by (try simp only [List.map_toArray, List.map_cons, List.map_nil]); first | done | rfl | (simp only [List.length_drop, List.length_take]; rfl)) ?_; (with_reducible refine (laws_heldIntS.calls kj74 _ _ t535 1 t549 _ ?side1 ?side2 A90.out).mono ?_); (case side1 => repeat (first | exact (Kd.R_reads' HO_9.out).2.2 | (with_reducible refine Kd.C_alloc ?_ _) | (with_reducible refine Kd.C_drewN ?_ _) | (with_reducible refine Kd.C_drew ?_))); (case side2 => exact (Kd.R_reads' HO_9.out).2.1); rintro e w' ⟨rfl, ⟨nd, rfl⟩⟩; refine ⟨_, rfl, ?_⟩))
                go_ret
                exact ⟨by first | rfl | (simp [errW_none, errW_some] <;> rfl) | (simp [*, errW_none, errW_some] <;> rfl), by repeat (first | (with_reducible first | exact HB.out | apply below_alloc | apply pw_below_drewN | apply below_drew1 | refine below_set ?_ GE498.out | refine below_set ?_ GE499.out | refine below_set ?_ GE517.out) | exact HB.out)⟩
               ·rw [if_neg c92] at H
                have c92b0 : (t549 == t534) = false := beq_eq_false_iff_ne.mpr c92
                have c92b1 : (t549 != t534) = true := bne_iff_ne.mpr c92
                obtain rfl := Option.some.inj H
                go_wp2_with (first | ((with_reducible refine gate_callee (f := 24) rfl ?_); refine goesL_ (some 98) rfl rfl Try.func24 (by kernel_rfl) rfl #[.slice Ao76 t535.length co76, .int .i64 1] rfl (by (try simp only [List.map_toArray, List.map_cons, List.map_nil]); first | done | rfl | (simp only [List.length_drop, List.length_take]; rfl)) ?_; (with_reducible refine (laws_heldIntS.calls kj74 _ _ t535 1 t549 _ ?side1 ?side2 A90.out).mono ?_); (case side1 => repeat (first | exact (Kd.R_reads' HO_9.out).2.2 | (with_reducible refine Kd.C_alloc ?_ _) | (with_reducible refine Kd.C_drewN ?_ _) | (with_reducible refine Kd.C_drew ?_))); (case side2 => exact (Kd.R_reads' HO_9.out).2.1); rintro e w' ⟨rfl, ⟨nd, rfl⟩⟩; refine ⟨_, rfl, ?_⟩))
                go_ret
                exact ⟨by first | rfl | (simp [errW_none, errW_some] <;> rfl) | (simp [*, errW_none, errW_some] <;> rfl), by repeat (first | (with_reducible first | exact HB.out | apply below_alloc | apply pw_below_drewN | apply below_drew1 | refine below_set ?_ GE498.out | refine below_set ?_ GE499.out | refine below_set ?_ GE517.out) | exact HB.out)⟩
          ·rw [if_neg c71] at H
           have c71b0 : (t536 == t534) = false := beq_eq_false_iff_ne.mpr c71
           have c71b1 : (t536 != t534) = true := bne_iff_ne.mpr c71
           obtain rfl := Option.some.inj H
           obtain ⟨Ao93, co93, eo93⟩ := Kd.R_slice HO_9.out
           subst eo93
           go_wp2_with (first | ((with_reducible refine gate_callee (f := 23) rfl ?_); refine goesL_ (some 70) rfl rfl Try.func23 (by kernel_rfl) rfl #[.slice Ao93 t520.length co93, .int .i64 1] rfl (by (try simp only [List.map_toArray, List.map_cons, List.map_nil]); first | done | rfl | (simp only [List.length_drop, List.length_take]; rfl)) ?_; (with_reducible refine (laws_markIntS.calls kj48 (fun k_ => some k_ = (.slice Ao93 t520.length co93 : Value).ownBlock) (.slice Ao93 t520.length co93) t520 1 t534 t535 w _ ?side1 ?side2 A66.out).mono ?_); (case side1 => repeat (first | (with_reducible first | exact HB.out | apply below_alloc | apply pw_below_drewN | apply below_drew1 | refine below_set ?_ GE498.out | refine below_set ?_ GE499.out | refine below_set ?_ GE517.out) | exact HB.out)); (case side2 => exact Kd.R_tight rfl HO_9.out); rintro e w94 ⟨rfl, hy0, hb, hkp⟩; refine ⟨_, rfl, ?_⟩; have n0_ := Aside0.mk (Kd.R_mono (ok' := fun k_ => some k_ ≠ (.slice Ao93 t520.length co93 : Value).ownBlock ∧ some k_ ≠ (.slice Ao33 t532.length co33 : Value).ownBlock) (Kd.R_keptB (HO_6.out) hkp (fun k_ hk_ hs_ => (hk_.1) hs_)) (fun k_ hk_ => ⟨hk_.1.1, hk_.1.2⟩)); have n1_ := Aside0.mk (Kd.R_reok rfl hy0 (fun k_ e_ => HO_9.out.1 k_ e_)); have n2_ := Aside0.mk (Kd.R_mono (ok' := fun k_ => some k_ ≠ (v509 : Value).ownBlock ∧ some k_ ≠ (.slice Ao93 t520.length co93 : Value).ownBlock) (Kd.R_keptB (HO_518002.out) hkp (fun k_ hk_ hs_ => (hk_.2) hs_)) (fun k_ hk_ => ⟨hk_.1.1, hk_.1.2⟩)); have n3_ := Aside0.mk (blk_kept (by (with_reducible repeat (first | refine blk_drewN ?_ _ | refine blk_drew ?_ | refine blk_alloc ?_ _)); exact BK498.out) hkp (fun hs_ => (fun e_ => (Kd.R_ne HO_9.out BK498.out (by decide)) e_) hs_)); have n4_ := Aside0.mk (blk_kept (by (with_reducible repeat (first | refine blk_drewN ?_ _ | refine blk_drew ?_ | refine blk_alloc ?_ _)); exact BK499.out) hkp (fun hs_ => (fun e_ => (Kd.R_ne HO_9.out BK499.out (by decide)) e_) hs_)); have n5_ := Aside0.mk (blk_kept (by (with_reducible repeat (first | refine blk_drewN ?_ _ | refine blk_drew ?_ | refine blk_alloc ?_ _)); exact BK517.out) hkp (fun hs_ => (fun e_ => (Kd.R_ne HO_9.out BK517.out (by decide)) e_) hs_)); have n6_ := Aside0.mk (hb); clear HO_6; clear HO_9; clear HO_518002; clear BK498; clear BK499; clear BK517; clear HB; have HO_6 := n0_; have HO_9 := n1_; have HO_518002 := n2_; have BK498 := n3_; have BK499 := n4_; have BK517 := n5_; have HB := n6_; clear n0_ n1_ n2_ n3_ n4_ n5_ n6_; (try clear hb); (try clear hkp); (try clear hy0)) | ((with_reducible refine gate_callee (f := 24) rfl ?_); refine goesL_ (some 73) rfl rfl Try.func24 (by kernel_rfl) rfl #[.slice Ao93 t535.length co93, .int .i64 1] rfl (by (try simp only [List.map_toArray, List.map_cons, List.map_nil]); first | done | (rw [show t535.length = t520.length from (Kd.R_reads' HO_9.out).1.symm] <;> rfl) | rfl | (simp only [List.length_drop, List.length_take]; rfl)) ?_; (with_reducible refine (laws_heldIntS.calls kj48 _ _ t535 1 t536 _ ?side1 ?side2 A67.out).mono ?_); (case side1 => repeat (first | exact (Kd.R_reads' HO_9.out).2.2 | (with_reducible refine Kd.C_alloc ?_ _) | (with_reducible refine Kd.C_drewN ?_ _) | (with_reducible refine Kd.C_drew ?_))); (case side2 => rw [show t535.length = t520.length from (Kd.R_reads' HO_9.out).1.symm]; exact (Kd.R_reads' HO_9.out).2.1); rintro e w' ⟨rfl, ⟨nd, rfl⟩⟩; refine ⟨_, rfl, ?_⟩))
           go_ret
           exact ⟨by first | rfl | (simp [errW_none, errW_some] <;> rfl) | (simp [*, errW_none, errW_some] <;> rfl), by repeat (first | (with_reducible first | exact HB.out | apply below_alloc | apply pw_below_drewN | apply below_drew1 | refine below_set ?_ GE498.out | refine below_set ?_ GE499.out | refine below_set ?_ GE517.out) | exact HB.out)⟩
     ·replace c47 := Bool.eq_false_iff.mpr c47
      subst c47
      have H1 : (some false) = some r := by rw [if_neg (show ¬ (false = true) by decide)] at H; exact H
      clear H
      have H := H1
      clear H1
      obtain rfl := Option.some.inj H
      try go_wp2
      have n0_ := Aside0.mk (Kd.R_drew HO_6.out)
      have n1_ := Aside0.mk (Kd.R_drew HO_9.out)
      have n2_ := Aside0.mk (Kd.R_drew HO_518002.out)
      have n3_ := Aside0.mk (blk_drew BK498.out)
      have n4_ := Aside0.mk (blk_drew BK499.out)
      have n5_ := Aside0.mk (blk_drew BK517.out)
      have n6_ := Aside0.mk (below_drew1 HB.out)
      clear HO_6
      clear HO_9
      clear HO_518002
      clear BK498
      clear BK499
      clear BK517
      clear HB
      have HO_6 := n0_
      have HO_9 := n1_
      have HO_518002 := n2_
      have BK498 := n3_
      have BK499 := n4_
      have BK517 := n5_
      have HB := n6_
      clear n0_ n1_ n2_ n3_ n4_ n5_ n6_
      refine start_ (n := 5) (S := fun w' => w'.cell? ⟨gb517, 0, none⟩ = some (.int .i64 t512) ∧ w'.cell? ⟨gb517, 1, none⟩ = some (.int .i64 t513) ∧ w'.cell? ⟨gb517, 2, none⟩ = some (.slice Ao33 t514.length co33) ∧ w'.cell? ⟨gb498, 0, none⟩ = some (.int .i64 a0_0) ∧ w'.cell? ⟨gb498, 1, none⟩ = some (.int .i64 a0_1) ∧ w'.cell? ⟨gb498, 2, none⟩ = some (.slice A0_2 l0_2.length c0_2)) (ds := []) #[false, false, false, false, false] (by kernel_rfl) rfl rfl ⟨(blk_cell BK517.out 0).trans rfl, (blk_cell BK517.out 1).trans rfl, (blk_cell BK517.out 2).trans rfl, (blk_cell BK498.out 0).trans rfl, (blk_cell BK498.out 1).trans rfl, (blk_cell BK498.out 2).trans rfl⟩ (fun hHeld => ?_)
      generalize wc.drew = w95 at HO_6 HO_9 HO_518002 BK498 BK499 BK517 HB hHeld ⊢
      refine take_ (i := 0) (N := some 47) (v := ?_) (a' := ?_) #[true, false, false, false, false] rfl rfl (by kernel_rfl) (fun _ _ _ h => h) (Or.inl ⟨by rfl, ?_⟩) hHeld ?_ ?_
      rotate_left
      ·rintro w' ⟨s0, s1, s2, s3, s4, s5⟩
       go_simp
       with_reducible rfl
      rotate_left
      ·simp only [Act.put, List.setIfInBounds_toArray, List.set_cons_zero, List.set_cons_succ, i64_w, i32_w]
       rfl
      refine take_ (i := 1) (N := some 48) (v := ?_) (a' := ?_) #[true, true, false, false, false] rfl rfl (by kernel_rfl) (fun _ _ _ h => h) (Or.inl ⟨by rfl, ?_⟩) hHeld ?_ ?_
      rotate_left
      ·rintro w' ⟨s0, s1, s2, s3, s4, s5⟩
       go_simp
       with_reducible rfl
      rotate_left
      ·simp only [Act.put, List.setIfInBounds_toArray, List.set_cons_zero, List.set_cons_succ, i64_w, i32_w]
       rfl
      refine one_ (i := 2) (N := some 49) #[true, true, true, false, false] rfl rfl (by kernel_rfl) (by decide) (fun K hK => ?_)
      refine goes_ Try.func17 (by kernel_rfl) rfl #[.agg #[.int .i64 a0_0, .int .i64 a0_1, .slice A0_2 l0_2.length c0_2]] (by rfl) rfl rfl (by (try simp only [List.map_toArray, List.map_cons, List.map_nil]); first | done | rfl | (simp only [List.length_drop, List.length_take]; rfl)) ?_
      with_reducible refine (laws_toBoard.calls kj15 a0_0 a0_1 _ _ l0_2 t525 t526 t527 _ ?side1 ?side2 A45.out).mono ?_
      (case side1 => repeat (first | exact (Kd.C_below HR0_2.out HB.out) | (with_reducible refine Kd.C_alloc ?_ _) | (with_reducible refine Kd.C_drewN ?_ _) | (with_reducible refine Kd.C_drew ?_)))
      (case side2 => exact HC0_2.out)
      rintro e w96 ⟨v528, rfl, ho0, hb⟩
      refine ⟨_, rfl, ?_⟩
      have n0_ := Aside0.mk (Kd.R_elder' (by (with_reducible repeat (first | apply Kd.R_alloc | apply Kd.R_drewN | apply Kd.R_drew)); exact HO_6.out) (Kd.R_base ho0) hb)
      have n1_ := Aside0.mk (Kd.R_elder' (by (with_reducible repeat (first | apply Kd.R_alloc | apply Kd.R_drewN | apply Kd.R_drew)); exact HO_9.out) (Kd.R_base ho0) hb)
      have n2_ := Aside0.mk (Kd.R_elder' (by (with_reducible repeat (first | apply Kd.R_alloc | apply Kd.R_drewN | apply Kd.R_drew)); exact HO_518002.out) (Kd.R_base ho0) hb)
      have n3_ := Aside0.mk (Kd.R_lower (Kd.R_new' (Kd.R_new' (Kd.R_new' ho0 (Kd.R_lt (by (with_reducible repeat (first | apply Kd.R_alloc | apply Kd.R_drewN | apply Kd.R_drew)); exact HO_6.out))) (Kd.R_lt (by (with_reducible repeat (first | apply Kd.R_alloc | apply Kd.R_drewN | apply Kd.R_drew)); exact HO_9.out))) (Kd.R_lt (by (with_reducible repeat (first | apply Kd.R_alloc | apply Kd.R_drewN | apply Kd.R_drew)); exact HO_518002.out))) (below_size (by repeat (first | (with_reducible first | exact HB.out | apply below_alloc | apply pw_below_drewN | apply below_drew1 | refine below_set ?_ GE498.out | refine below_set ?_ GE499.out | refine below_set ?_ GE517.out) | exact HB.out))))
      have n4_ := Aside0.mk (blk_below (g := gb498) (o := .cells #[.int .i64 a0_0, .int .i64 a0_1, .slice A0_2 l0_2.length c0_2] 24 (0, 0)) (by (with_reducible repeat (first | refine blk_drewN ?_ _ | refine blk_drew ?_ | refine blk_alloc ?_ _)); exact BK498.out) hb)
      have n5_ := Aside0.mk (blk_below (g := gb499) (o := .cells #[.int .i64 a1_0, .int .i64 a1_1] 26 (0, 0)) (by (with_reducible repeat (first | refine blk_drewN ?_ _ | refine blk_drew ?_ | refine blk_alloc ?_ _)); exact BK499.out) hb)
      have n6_ := Aside0.mk (blk_below (g := gb517) (o := .cells #[.int .i64 t512, .int .i64 t513, .slice Ao33 t514.length co33] 30 (0, 0)) (by (with_reducible repeat (first | refine blk_drewN ?_ _ | refine blk_drew ?_ | refine blk_alloc ?_ _)); exact BK517.out) hb)
      have n7_ := Aside0.mk (below_step (by repeat (first | (with_reducible first | exact HB.out | apply below_alloc | apply pw_below_drewN | apply below_drew1 | refine below_set ?_ GE498.out | refine below_set ?_ GE499.out | refine below_set ?_ GE517.out) | exact HB.out)) hb)
      clear HO_6
      clear HO_9
      clear HO_518002
      clear BK498
      clear BK499
      clear BK517
      clear HB
      have HO_6 := n0_
      have HO_9 := n1_
      have HO_518002 := n2_
      have HO529 := n3_
      have BK498 := n4_
      have BK499 := n5_
      have BK517 := n6_
      have HB := n7_
      clear n0_ n1_ n2_ n3_ n4_ n5_ n6_ n7_
      (try clear hb)
      (try clear hb2)
      (try clear hk)
      (try clear hi)
      (try clear ho0)
      (try clear hna_)
      (try clear hnb_)
      obtain ⟨Ao97, co97, eo97⟩ := Kd.R_slice HO529.out
      (first | subst eo97 | (injection eo97 with f1_ f2_ f3_; have f4_ := f1_.symm; have f5_ := f3_.symm; clear f1_ f2_ f3_; subst f4_; subst f5_))
      refine hK.out _ _ ⟨(blk_cell BK517.out 0).trans rfl, (blk_cell BK517.out 1).trans rfl, (blk_cell BK517.out 2).trans rfl, (blk_cell BK498.out 0).trans rfl, (blk_cell BK498.out 1).trans rfl, (blk_cell BK498.out 2).trans rfl⟩ (fun hHeld => ?_)
      clear hK K
      refine norm_ (a' := ?_) ?_ ?_
      rotate_left
      ·show Act.put _ (some 49) _ = _
       simp only [Act.put, List.setIfInBounds_toArray, List.set_cons_zero, List.set_cons_succ, i64_w, i32_w]
       rfl
      refine one_ (i := 3) (N := some 50) #[true, true, true, true, false] rfl rfl (by kernel_rfl) (by decide) (fun K hK => ?_)
      refine goes_ Try.func21 (by kernel_rfl) rfl #[.agg #[.int .i64 t512, .int .i64 t513, .slice Ao33 t514.length co33], .agg #[.int .i64 t525, .int .i64 t526, .slice Ao97 t527.length co97]] (by rfl) rfl rfl (by (try simp only [List.map_toArray, List.map_cons, List.map_nil]); first | done | rfl | (simp only [List.length_drop, List.length_take]; rfl)) ?_
      with_reducible refine (laws_eqBoard.calls kj15 t512 t513 _ _ t514 t525 t526 _ _ t527 false _ ?side1 ?side2 ?side3 ?side4 A46.out).mono ?_
      (case side1 => repeat (first | exact (Kd.R_reads' HO_518002.out).2.2 | (with_reducible refine Kd.C_alloc ?_ _) | (with_reducible refine Kd.C_drewN ?_ _) | (with_reducible refine Kd.C_drew ?_)))
      (case side2 => exact (Kd.R_reads' HO_518002.out).2.1)
      (case side3 => repeat (first | exact (Kd.R_reads' HO529.out).2.2 | (with_reducible refine Kd.C_alloc ?_ _) | (with_reducible refine Kd.C_drewN ?_ _) | (with_reducible refine Kd.C_drew ?_)))
      (case side4 => exact (Kd.R_reads' HO529.out).2.1)
      rintro e w98 ⟨rfl, hb⟩
      refine ⟨_, rfl, ?_⟩
      have n0_ := Aside0.mk (Kd.R_below (by (with_reducible repeat (first | apply Kd.R_alloc | apply Kd.R_drewN | apply Kd.R_drew)); exact HO_6.out) hb)
      have n1_ := Aside0.mk (Kd.R_below (by (with_reducible repeat (first | apply Kd.R_alloc | apply Kd.R_drewN | apply Kd.R_drew)); exact HO_9.out) hb)
      have n2_ := Aside0.mk (Kd.R_below (by (with_reducible repeat (first | apply Kd.R_alloc | apply Kd.R_drewN | apply Kd.R_drew)); exact HO_518002.out) hb)
      have n3_ := Aside0.mk (Kd.R_below (by (with_reducible repeat (first | apply Kd.R_alloc | apply Kd.R_drewN | apply Kd.R_drew)); exact HO529.out) hb)
      have n4_ := Aside0.mk (blk_below (g := gb498) (o := .cells #[.int .i64 a0_0, .int .i64 a0_1, .slice A0_2 l0_2.length c0_2] 24 (0, 0)) (by (with_reducible repeat (first | refine blk_drewN ?_ _ | refine blk_drew ?_ | refine blk_alloc ?_ _)); exact BK498.out) hb)
      have n5_ := Aside0.mk (blk_below (g := gb499) (o := .cells #[.int .i64 a1_0, .int .i64 a1_1] 26 (0, 0)) (by (with_reducible repeat (first | refine blk_drewN ?_ _ | refine blk_drew ?_ | refine blk_alloc ?_ _)); exact BK499.out) hb)
      have n6_ := Aside0.mk (blk_below (g := gb517) (o := .cells #[.int .i64 t512, .int .i64 t513, .slice Ao33 t514.length co33] 30 (0, 0)) (by (with_reducible repeat (first | refine blk_drewN ?_ _ | refine blk_drew ?_ | refine blk_alloc ?_ _)); exact BK517.out) hb)
      have n7_ := Aside0.mk (below_step (by repeat (first | (with_reducible first | exact HB.out | apply below_alloc | apply pw_below_drewN | apply below_drew1 | refine below_set ?_ GE498.out | refine below_set ?_ GE499.out | refine below_set ?_ GE517.out) | exact HB.out)) hb)
      clear HO_6
      clear HO_9
      clear HO_518002
      clear HO529
      clear BK498
      clear BK499
      clear BK517
      clear HB
      have HO_6 := n0_
      have HO_9 := n1_
      have HO_518002 := n2_
      have HO529 := n3_
      have BK498 := n4_
      have BK499 := n5_
      have BK517 := n6_
      have HB := n7_
      clear n0_ n1_ n2_ n3_ n4_ n5_ n6_ n7_
      (try clear hb)
      (try clear hb2)
      (try clear hk)
      (try clear hi)
      (try clear hna_)
      (try clear hnb_)
      refine hK.out _ _ ⟨(blk_cell BK517.out 0).trans rfl, (blk_cell BK517.out 1).trans rfl, (blk_cell BK517.out 2).trans rfl, (blk_cell BK498.out 0).trans rfl, (blk_cell BK498.out 1).trans rfl, (blk_cell BK498.out 2).trans rfl⟩ (fun hHeld => ?_)
      clear hK K
      refine norm_ (a' := ?_) ?_ ?_
      rotate_left
      ·show Act.put _ (some 50) _ = _
       simp only [Act.put, List.setIfInBounds_toArray, List.set_cons_zero, List.set_cons_succ, i64_w, i32_w]
       rfl
      refine pure_ (i := 4) (N := some 51) (v := ?_) (a' := ?_) #[true, true, true, true, true] rfl rfl (by kernel_rfl) (fun _ _ _ h => h) (Or.inl ⟨by rfl, ?_⟩) ?_ ?_
      rotate_left
      ·intro w'
       go_simp
       with_reducible rfl
      rotate_left
      ·simp only [Act.put, List.setIfInBounds_toArray, List.set_cons_zero, List.set_cons_succ, i64_w, i32_w]
       rfl
      refine done_ (by kernel_rfl) ?_
      try go_wp2
      go_ret
      exact ⟨by first | rfl | (simp [errW_none, errW_some] <;> rfl) | (simp [*, errW_none, errW_some] <;> rfl), by repeat (first | (with_reducible first | exact HB.out | apply below_alloc | apply pw_below_drewN | apply below_drew1 | refine below_set ?_ GE498.out | refine below_set ?_ GE499.out | refine below_set ?_ GE517.out) | exact HB.out)⟩

end Go.Proofs.Ytekajjhjjnfdpaa.Q

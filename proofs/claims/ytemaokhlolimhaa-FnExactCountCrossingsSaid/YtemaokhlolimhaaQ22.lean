/- Written by a program of this session: functions of the translation as plain Lean functions, each with a proof that the call does what the plain function says; the conditions stand in each theorem. -/
import Derived.Test.YtemaokhlolimhaaQ0
import Derived.Test.YtemaokhlolimhaaQ2
import Derived.Test.YtemaokhlolimhaaQ19
import Derived.Test.YtemaokhlolimhaaQ21
namespace Go.Proofs.Ytemaokhlolimhaa.Q
open Go.RowKit Go.Proofs.YtemaokhlolimhaaW.PrintWords Go.Proofs.YtemaokhlolimhaaW.PrintLast Go.Proofs.YtemaokhlolimhaaW.PrintMore
attribute [local go_sem] max2_int min2_int max_two min_two max_three min_three max_four min_four   -- for this text's walks alone
set_option linter.unusedVariables false
set_option linter.unusedSimpArgs false

theorem zw1 {p : Prop} (h : p := by repeat (first | (with_reducible first | exact HB.out | apply below_alloc | apply pw_below_drewN | apply below_drew1 | refine below_set ?_ GE396.out | refine below_set ?_ GE397.out | refine below_set ?_ GE416.out) | exact HB.out)) : p := h
theorem zw2 {p : Prop} (h : p := by first | exact BK396.out | ((with_reducible repeat (first | refine blk_drewN ?_ _ | refine blk_drew ?_ | refine blk_alloc ?_ _)); exact BK396.out)) : p := h
theorem zw3 {p : Prop} (h : p := by repeat (first | (with_reducible first | exact HB.out | apply below_alloc | apply pw_below_drewN | apply below_drew1 | refine below_set ?_ GE396.out | refine below_set ?_ GE397.out) | exact HB.out)) : p := h
theorem zw4 {p : Prop} (h : p := by (try simp only [List.map_toArray, List.map_cons, List.map_nil]); first | done | rfl | (simp only [List.length_drop, List.length_take]; rfl)) : p := h
theorem zw5 {p : Prop} (h : p := by first | exact BK397.out | ((with_reducible repeat (first | refine blk_drewN ?_ _ | refine blk_drew ?_ | refine blk_alloc ?_ _)); exact BK397.out)) : p := h
theorem zw6 {p : Prop} (h : p := by repeat (first | (with_reducible first | exact HB.out | apply below_alloc | apply pw_below_drewN | apply below_drew1 | refine below_set ?_ GE396.out) | exact HB.out)) : p := h
theorem zw7 {p : Prop} (h : p := by first | exact HO_417002.out | ((with_reducible repeat (first | apply Kd.R_alloc | apply Kd.R_drewN | apply Kd.R_drew)); exact HO_417002.out)) : p := h
theorem zw8 {p : Prop} (h : p := by first | exact BK416.out | ((with_reducible repeat (first | refine blk_drewN ?_ _ | refine blk_drew ?_ | refine blk_alloc ?_ _)); exact BK416.out)) : p := h
theorem zw9 {p : Prop} (h : p := by first | exact HO_11.out | ((with_reducible repeat (first | apply Kd.R_alloc | apply Kd.R_drewN | apply Kd.R_drew)); exact HO_11.out)) : p := h
theorem zw10 {p : Prop} (h : p := by repeat (first | (with_reducible first | exact HB.out | apply below_alloc | apply pw_below_drewN | apply below_drew1) | exact HB.out)) : p := h
theorem zw11 {p : Prop} (h : p := by repeat (first | exact (Kd.C_below HR0_2.out HB.out) | (with_reducible refine Kd.C_alloc ?_ _) | (with_reducible refine Kd.C_drewN ?_ _) | (with_reducible refine Kd.C_drew ?_))) : p := h
theorem zw12 {p : Prop} (h : p := by first | exact HO403.out | ((with_reducible repeat (first | apply Kd.R_alloc | apply Kd.R_drewN | apply Kd.R_drew)); exact HO403.out)) : p := h
theorem zw13 {p : Prop} (h : p := by first | exact HO428.out | ((with_reducible repeat (first | apply Kd.R_alloc | apply Kd.R_drewN | apply Kd.R_drew)); exact HO428.out)) : p := h
theorem zw14 {p : Prop} (h : p := by first | exact HO408.out | ((with_reducible repeat (first | apply Kd.R_alloc | apply Kd.R_drewN | apply Kd.R_drew)); exact HO408.out)) : p := h
theorem zw15 {p : Prop} (h : p := by first | rfl | (simp [errW_none, errW_some] <;> rfl) | (simp [*, errW_none, errW_some] <;> rfl)) : p := h
theorem zw16 {p : Prop} (h : p := by (with_reducible repeat (first | apply Kd.R_alloc | apply Kd.R_drewN | apply Kd.R_drew)); exact (Kd.R_mono (Kd.R_far (p := ⟨gb416, 2, none⟩) (Kd.R_far (p := ⟨gb416, 1, none⟩) (Kd.R_far (p := ⟨gb416, 0, none⟩) (Kd.R_types HO415.out BK416.out (by decide)) (fun _ hk => hk.2) (.int .i64 t411)) (fun _ hk => hk.2) (.int .i64 t412)) (fun _ hk => hk.2) (.slice Ao41 t413.length co41)) (fun _ h_ => h_.1))) : p := h
theorem zw17 {p : Prop} (h : p := by (with_reducible repeat (first | apply Kd.R_alloc | apply Kd.R_drewN | apply Kd.R_drew)); exact (Kd.R_mono (Kd.R_far (p := ⟨gb416, 2, none⟩) (Kd.R_far (p := ⟨gb416, 1, none⟩) (Kd.R_far (p := ⟨gb416, 0, none⟩) (Kd.R_types HO408.out BK416.out (by decide)) (fun _ hk => hk.2) (.int .i64 t411)) (fun _ hk => hk.2) (.int .i64 t412)) (fun _ hk => hk.2) (.slice Ao41 t413.length co41)) (fun _ h_ => h_.1))) : p := h
theorem zw18 {p : Prop} (h : p := by (with_reducible repeat (first | apply Kd.R_alloc | apply Kd.R_drewN | apply Kd.R_drew)); exact (Kd.R_mono (Kd.R_far (p := ⟨gb416, 2, none⟩) (Kd.R_far (p := ⟨gb416, 1, none⟩) (Kd.R_far (p := ⟨gb416, 0, none⟩) (Kd.R_types HO403.out BK416.out (by decide)) (fun _ hk => hk.2) (.int .i64 t411)) (fun _ hk => hk.2) (.int .i64 t412)) (fun _ hk => hk.2) (.slice Ao41 t413.length co41)) (fun _ h_ => h_.1))) : p := h
theorem zw19 {p : Prop} (h : p := by repeat (first | exact (Kd.R_reads' HO_417002.out).2.2 | (with_reducible refine Kd.C_alloc ?_ _) | (with_reducible refine Kd.C_drewN ?_ _) | (with_reducible refine Kd.C_drew ?_))) : p := h
theorem zw20 {p : Prop} (h : p := by repeat (first | exact (Kd.R_reads' HO428.out).2.2 | (with_reducible refine Kd.C_alloc ?_ _) | (with_reducible refine Kd.C_drewN ?_ _) | (with_reducible refine Kd.C_drew ?_))) : p := h
theorem zw21 {p : Prop} (h : p := by repeat (first | exact (Kd.C_below HR2.out HB.out) | (with_reducible refine Kd.C_alloc ?_ _) | (with_reducible refine Kd.C_drewN ?_ _) | (with_reducible refine Kd.C_drew ?_))) : p := h
theorem zw22 {p : Prop} (h : p := by first | exact HO415.out | ((with_reducible repeat (first | apply Kd.R_alloc | apply Kd.R_drewN | apply Kd.R_drew)); exact HO415.out)) : p := h
theorem zw23 {p : Prop} (h : p := by repeat (first | exact (Kd.R_reads' HO_11.out).2.2 | (with_reducible refine Kd.C_alloc ?_ _) | (with_reducible refine Kd.C_drewN ?_ _) | (with_reducible refine Kd.C_drew ?_))) : p := h
theorem zw24 {p : Prop} (h : p := by repeat (first | exact (Kd.R_reads' HO432.out).2.2 | (with_reducible refine Kd.C_alloc ?_ _) | (with_reducible refine Kd.C_drewN ?_ _) | (with_reducible refine Kd.C_drew ?_))) : p := h
theorem zw25 {p : Prop} (h : p := by (with_reducible repeat (first | apply Kd.R_alloc | apply Kd.R_drewN | apply Kd.R_drew)); exact Kd.R_mono HO419.out (fun _ hk => hk.2)) : p := h
theorem zw26 {p : Prop} (h : p := by (with_reducible repeat (first | apply Kd.R_alloc | apply Kd.R_drewN | apply Kd.R_drew)); exact Kd.R_mono HO415.out (fun _ hk => hk.2)) : p := h
theorem zw27 {p : Prop} (h : p := by rw [hg]; exact Nat.ne_of_lt (blk_lt (g := gb396) (o := .cells #[.int .i64 a0_0, .int .i64 a0_1, .slice A0_2 l0_2.length c0_2] 24 (0, 0)) zw2)) : p := h
theorem zw28 {p : Prop} (h : p := by rw [hg]; exact Nat.ne_of_gt (blk_lt (g := gb396) (o := .cells #[.int .i64 a0_0, .int .i64 a0_1, .slice A0_2 l0_2.length c0_2] 24 (0, 0)) zw2)) : p := h
theorem zw29 {p : Prop} (h : p := by rw [hg]; exact (below_size zw10)) : p := h
theorem zw30 {p : Prop} (h : p := by rw [hg]; exact (below_size zw6)) : p := h
/-! ### laws_FnExactCountCrossings: function 6 -/
def laws_FnExactCountCrossings.j0 : Nat → List Int → List Int → Bool → Int → Int → List Int → Int → Int → List Int → Option (Bool)
 | 0, _, _, _, _, _, _, _, _, _ => none
 | k + 1, x2, x11, x51, x397000, x397001, x397002, x417000, x417001, x417002 => if x51 = true then (some false) else ((laws_toBoard.f k x397000 x397001 x397002).bind fun bt424 => ((laws_eqBoard.f k x417000 x417001 x417002 bt424.1 bt424.2.1 bt424.2.2).bind fun t429 => (if t429 = true then ((laws_toIntS.f k x2).bind fun t430 => ((laws_eqIntS.f k x11 t430).bind fun t433 => (if t433 = true then (some true) else (some false)))) else (some false))))
def laws_FnExactCountCrossings.f (k : Nat) (a0_0 : Int) (a0_1 : Int) (l0_2 : List Int) (a1_0 : Int) (a1_1 : Int) (l2 : List Int) : Option (Bool) := if (l2.length : Int) > 1048576 then (some true) else ((laws_szBoard.f a0_0 a0_1 l0_2 1048576).bind fun t398 => (if t398 < 0 then (some true) else ((laws_toBoard.f k a0_0 a0_1 l0_2).bind fun bt399 => ((laws_toLeaper.f a1_0 a1_1).bind fun bt404 => ((laws_toIntS.f k l2).bind fun t406 => ((spec_CountCrossings.f k bt399.1 bt399.2.1 bt399.2.2 bt404.1 bt404.2 t406).bind fun bt409 => ((laws_toBoard.f k a0_0 a0_1 l0_2).bind fun bt411 => ((laws_toIntS.f k l2).bind fun t417 => ((laws_toLeaper.f a1_0 a1_1).bind fun bt420 => ((impl_CountCrossings.f k bt411.1 bt411.2.1 bt411.2.2 bt420.1 bt420.2 t417).bind fun bt422 => (if bt422.1 = bt409.1 then (laws_FnExactCountCrossings.j0 k l2 t417 (bt422.2 != bt409.2) a0_0 a0_1 l0_2 bt411.1 bt411.2.1 bt411.2.2) else (laws_FnExactCountCrossings.j0 k l2 t417 true a0_0 a0_1 l0_2 bt411.1 bt411.2.1 bt411.2.2))))))))))))
def laws_FnExactCountCrossings.T7 : Bool × List (List Nat × List Nat) := (true, [([], []), ([0], [0]), ([], []), ([2, 1], [2]), ([], []), ([4, 3], [4]), ([1, 3, 5, 5], [1, 3, 5]), ([6], [6]), ([7], [7]), ([7], [7]), ([8, 6, 0, 1, 2, 3, 4, 5, 6, 7, 8], [8]), ([9, 10, 0, 1, 2, 3, 4, 5, 6, 7, 8, 9, 10], [9])])
def laws_FnExactCountCrossings.B7 : List Nat := [0, 1, 0, 7, 0, 31, 63, 127, 255, 255, 511, 2047]
theorem laws_FnExactCountCrossings.tab7 : rtab .any (opsOf Try.f6 7) = laws_FnExactCountCrossings.T7 := by kernel_rfl
theorem laws_FnExactCountCrossings.bits7 : waitsOk laws_FnExactCountCrossings.T7.2 laws_FnExactCountCrossings.B7 = true := by kernel_rfl
def laws_FnExactCountCrossings.T10 : Bool × List (List Nat × List Nat) := (true, [([], []), ([], []), ([1], [1]), ([], []), ([0, 2, 3, 2], [0, 2, 3]), ([4], [4]), ([5], [5]), ([5], [5]), ([6, 4, 0, 1, 2, 3, 4, 5, 6], [6]), ([7, 8, 0, 1, 2, 3, 4, 5, 6, 7, 8], [7])])
def laws_FnExactCountCrossings.B10 : List Nat := [0, 0, 2, 0, 15, 31, 63, 63, 127, 511]
theorem laws_FnExactCountCrossings.tab10 : rtab .any (opsOf Try.f6 10) = laws_FnExactCountCrossings.T10 := by kernel_rfl
theorem laws_FnExactCountCrossings.bits10 : waitsOk laws_FnExactCountCrossings.T10.2 laws_FnExactCountCrossings.B10 = true := by kernel_rfl
set_option maxHeartbeats 8000000 in
set_option maxRecDepth 100000 in
theorem laws_FnExactCountCrossings.calls (k : Nat) (a0_0 : Int) (a0_1 : Int) (A0_2 : Option Addr) (c0_2 : Nat) (l0_2 : List Int) (a1_0 : Int) (a1_1 : Int) (A2 : Option Addr) (c2 : Nat) (l2 : List Int) (r : Bool) (w : World) (hr0_2 : Kd.C (Kd.int .i64) w A0_2 l0_2.length l0_2) (hc0_2 : l0_2.length ≤ c0_2) (hr2 : Kd.C (Kd.int .i64) w A2 l2.length l2) (hc2 : l2.length ≤ c2) (h : laws_FnExactCountCrossings.f k a0_0 a0_1 l0_2 a1_0 a1_1 l2 = some r) :
  Calls Try.prog 6 #[.agg #[.int .i64 a0_0, .int .i64 a0_1, .slice A0_2 l0_2.length c0_2], .agg #[.int .i64 a1_0, .int .i64 a1_1], .slice A2 l2.length c2] w fun e w' => e = .returned (.bool r) ∧ Below w.heap.size w w' := by
 have hu24 := Try.underlying24
 have hu26 := Try.underlying26
 have hu31 := Try.underlying31
 have HR0_2 := Aside0.mk hr0_2
 have HC0_2 := Aside0.mk hc0_2
 clear hr0_2 hc0_2
 have HR2 := Aside0.mk hr2
 have HC2 := Aside0.mk hc2
 clear hr2 hc2
 have HB := Aside0.mk (Below.refl w.heap.size w)
 have H : (if (l2.length : Int) > 1048576 then (some true) else ((laws_szBoard.f a0_0 a0_1 l0_2 1048576).bind fun t398 => (if t398 < 0 then (some true) else ((laws_toBoard.f k a0_0 a0_1 l0_2).bind fun bt399 => ((laws_toLeaper.f a1_0 a1_1).bind fun bt404 => ((laws_toIntS.f k l2).bind fun t406 => ((spec_CountCrossings.f k bt399.1 bt399.2.1 bt399.2.2 bt404.1 bt404.2 t406).bind fun bt409 => ((laws_toBoard.f k a0_0 a0_1 l0_2).bind fun bt411 => ((laws_toIntS.f k l2).bind fun t417 => ((laws_toLeaper.f a1_0 a1_1).bind fun bt420 => ((impl_CountCrossings.f k bt411.1 bt411.2.1 bt411.2.2 bt420.1 bt420.2 t417).bind fun bt422 => (if bt422.1 = bt409.1 then (laws_FnExactCountCrossings.j0 k l2 t417 (bt422.2 != bt409.2) a0_0 a0_1 l0_2 bt411.1 bt411.2.1 bt411.2.2) else (laws_FnExactCountCrossings.j0 k l2 t417 true a0_0 a0_1 l0_2 bt411.1 bt411.2.1 bt411.2.2))))))))))))) = some r := h
 clear h
 by_cases c4 : (l2.length : Int) > 1048576
 ·rw [if_pos c4] at H
  have c4b0 : decide (1048576 < (l2.length : Int)) = true := decide_eq_true c4
  have c4b1 : decide (1048576 < l2.length) = true := decide_eq_true (by omega)
  clear c4
  obtain rfl := Option.some.inj H
  go_enter Try.func6, Try.ntmps6
  go_wp2_with (first | ((with_reducible refine gate_dst (N := 3) rfl ?_); refine box_event ?hg (N := 3) ?hd (cs := #[.int .i64 a0_0, .int .i64 a0_1, .slice A0_2 l0_2.length c0_2]) (t := 24) ?hr ?_; (case hd => rfl); (case hg => rfl); (case hr => first | (go_simp; done) | (go_simp; rfl)); intro gb396 hg w5 hbox hb; have n0_ := Aside0.mk (below_step zw10 hb); have n1_ := Aside0.mk (hbox); have n2_ := Aside0.mk ((zw29 : w.heap.size ≤ gb396)); have n3_ := Aside0.mk ((zw29 : w.heap.size ≤ gb396)); clear HB; have HB := n0_; have BK396 := n1_; have GW396 := n2_; have GE396 := n3_; clear n0_ n1_ n2_ n3_; clear hb hbox hg) | ((with_reducible refine gate_dst (N := 4) rfl ?_); refine box_event ?hg (N := 4) ?hd (cs := #[.int .i64 a1_0, .int .i64 a1_1]) (t := 26) ?hr ?_; (case hd => rfl); (case hg => rfl); (case hr => first | (go_simp; done) | (go_simp; rfl)); intro gb397 hg w6 hbox hb; have n0_ := Aside0.mk (blk_below (g := gb396) (o := .cells #[.int .i64 a0_0, .int .i64 a0_1, .slice A0_2 l0_2.length c0_2] 24 (0, 0)) zw2 hb); have n1_ := Aside0.mk (below_step zw6 hb); have n2_ := Aside0.mk (hbox); have n3_ := Aside0.mk ((zw30 : w.heap.size ≤ gb397)); have n4_ := Aside0.mk ((zw30 : w.heap.size ≤ gb397)); have n5_ := Aside0.mk ((zw27 : gb396 ≠ gb397)); have n6_ := Aside0.mk ((zw28 : gb397 ≠ gb396)); clear BK396; clear HB; have BK396 := n0_; have HB := n1_; have BK397 := n2_; have GW397 := n3_; have GE397 := n4_; have NB396_397 := n5_; have NB397_396 := n6_; clear n0_ n1_ n2_ n3_ n4_ n5_ n6_; clear hb hbox hg))
  go_ret
  exact ⟨zw15, zw3⟩
 rw [if_neg c4] at H
 have c4b0 : decide (1048576 < (l2.length : Int)) = false := decide_eq_false c4
 have c4b1 : decide (1048576 < l2.length) = false := decide_eq_false (by omega)
 clear c4
 replace H := Option.bind_eq_some_iff.mp H
 obtain ⟨t398, A70, H⟩ := H
 replace H : (if t398 < 0 then (some true) else ((laws_toBoard.f k a0_0 a0_1 l0_2).bind fun bt399 => ((laws_toLeaper.f a1_0 a1_1).bind fun bt404 => ((laws_toIntS.f k l2).bind fun t406 => ((spec_CountCrossings.f k bt399.1 bt399.2.1 bt399.2.2 bt404.1 bt404.2 t406).bind fun bt409 => ((laws_toBoard.f k a0_0 a0_1 l0_2).bind fun bt411 => ((laws_toIntS.f k l2).bind fun t417 => ((laws_toLeaper.f a1_0 a1_1).bind fun bt420 => ((impl_CountCrossings.f k bt411.1 bt411.2.1 bt411.2.2 bt420.1 bt420.2 t417).bind fun bt422 => (if bt422.1 = bt409.1 then (laws_FnExactCountCrossings.j0 k l2 t417 (bt422.2 != bt409.2) a0_0 a0_1 l0_2 bt411.1 bt411.2.1 bt411.2.2) else (laws_FnExactCountCrossings.j0 k l2 t417 true a0_0 a0_1 l0_2 bt411.1 bt411.2.1 bt411.2.2))))))))))) = some r := H
 have A7 := Aside0.mk A70
 clear A70
 by_cases c8 : t398 < 0
 ·rw [if_pos c8] at H
  have c8b0 : decide (t398 < 0) = true := decide_eq_true c8
  clear c8
  obtain rfl := Option.some.inj H
  go_enter Try.func6, Try.ntmps6
  go_wp2_with (first | ((with_reducible refine gate_dst (N := 3) rfl ?_); refine box_event ?hg (N := 3) ?hd (cs := #[.int .i64 a0_0, .int .i64 a0_1, .slice A0_2 l0_2.length c0_2]) (t := 24) ?hr ?_; (case hd => rfl); (case hg => rfl); (case hr => first | (go_simp; done) | (go_simp; rfl)); intro gb396 hg w9 hbox hb; have n0_ := Aside0.mk (below_step zw10 hb); have n1_ := Aside0.mk (hbox); have n2_ := Aside0.mk ((zw29 : w.heap.size ≤ gb396)); have n3_ := Aside0.mk ((zw29 : w.heap.size ≤ gb396)); clear HB; have HB := n0_; have BK396 := n1_; have GW396 := n2_; have GE396 := n3_; clear n0_ n1_ n2_ n3_; clear hb hbox hg) | ((with_reducible refine gate_dst (N := 4) rfl ?_); refine box_event ?hg (N := 4) ?hd (cs := #[.int .i64 a1_0, .int .i64 a1_1]) (t := 26) ?hr ?_; (case hd => rfl); (case hg => rfl); (case hr => first | (go_simp; done) | (go_simp; rfl)); intro gb397 hg w10 hbox hb; have n0_ := Aside0.mk (blk_below (g := gb396) (o := .cells #[.int .i64 a0_0, .int .i64 a0_1, .slice A0_2 l0_2.length c0_2] 24 (0, 0)) zw2 hb); have n1_ := Aside0.mk (below_step zw6 hb); have n2_ := Aside0.mk (hbox); have n3_ := Aside0.mk ((zw30 : w.heap.size ≤ gb397)); have n4_ := Aside0.mk ((zw30 : w.heap.size ≤ gb397)); have n5_ := Aside0.mk ((zw27 : gb396 ≠ gb397)); have n6_ := Aside0.mk ((zw28 : gb397 ≠ gb396)); clear BK396; clear HB; have BK396 := n0_; have HB := n1_; have BK397 := n2_; have GW397 := n3_; have GE397 := n4_; have NB396_397 := n5_; have NB397_396 := n6_; clear n0_ n1_ n2_ n3_ n4_ n5_ n6_; clear hb hbox hg; have hnb11 := NB396_397.out; have hnc11 := NB397_396.out; have hcz12_0 : w10.cell? ⟨gb396, 0, none⟩ = some (.int .i64 a0_0) := (blk_cell BK396.out 0).trans rfl; have hcz12_1 : w10.cell? ⟨gb396, 1, none⟩ = some (.int .i64 a0_1) := (blk_cell BK396.out 1).trans rfl; have hcz12_2 : w10.cell? ⟨gb396, 2, none⟩ = some (.slice A0_2 l0_2.length c0_2) := (blk_cell BK396.out 2).trans rfl; have hfz12_0 := blk_frozen BK396.out 0; have hfz12_1 := blk_frozen BK396.out 1; have hfz12_2 := blk_frozen BK396.out 2) | ((with_reducible refine gate_callee (f := 7) rfl ?_); refine goesL_ (some 19) rfl rfl Try.func7 (by kernel_rfl) rfl #[.agg #[.int .i64 a0_0, .int .i64 a0_1, .slice A0_2 l0_2.length c0_2], .int .i64 1048576] rfl zw4 ?_; (with_reducible refine (laws_szBoard.calls a0_0 a0_1 _ _ l0_2 1048576 t398 _ ?side1 ?side2 A7.out).mono ?_); (case side1 => exact zw11); (case side2 => exact HC0_2.out); rintro e w13 ⟨rfl, hb⟩; refine ⟨_, rfl, ?_⟩; have n0_ := Aside0.mk (blk_below (g := gb396) (o := .cells #[.int .i64 a0_0, .int .i64 a0_1, .slice A0_2 l0_2.length c0_2] 24 (0, 0)) zw2 hb); have n1_ := Aside0.mk (blk_below (g := gb397) (o := .cells #[.int .i64 a1_0, .int .i64 a1_1] 26 (0, 0)) zw5 hb); have n2_ := Aside0.mk (below_step zw3 hb); clear BK396; clear BK397; clear HB; have BK396 := n0_; have BK397 := n1_; have HB := n2_; clear n0_ n1_ n2_; (try clear hb); (try clear hb2); (try clear hk); (try clear hi); (try clear hna_); (try clear hnb_)))
  go_ret
  exact ⟨zw15, zw3⟩
 rw [if_neg c8] at H
 have c8b0 : decide (t398 < 0) = false := decide_eq_false c8
 clear c8
 replace H := Option.bind_eq_some_iff.mp H
 obtain ⟨⟨t399, t400, t401⟩, A140, H⟩ := H
 replace H : ((laws_toLeaper.f a1_0 a1_1).bind fun bt404 => ((laws_toIntS.f k l2).bind fun t406 => ((spec_CountCrossings.f k t399 t400 t401 bt404.1 bt404.2 t406).bind fun bt409 => ((laws_toBoard.f k a0_0 a0_1 l0_2).bind fun bt411 => ((laws_toIntS.f k l2).bind fun t417 => ((laws_toLeaper.f a1_0 a1_1).bind fun bt420 => ((impl_CountCrossings.f k bt411.1 bt411.2.1 bt411.2.2 bt420.1 bt420.2 t417).bind fun bt422 => (if bt422.1 = bt409.1 then (laws_FnExactCountCrossings.j0 k l2 t417 (bt422.2 != bt409.2) a0_0 a0_1 l0_2 bt411.1 bt411.2.1 bt411.2.2) else (laws_FnExactCountCrossings.j0 k l2 t417 true a0_0 a0_1 l0_2 bt411.1 bt411.2.1 bt411.2.2))))))))) = some r := H
 have A14 := Aside0.mk A140
 clear A140
 replace H := Option.bind_eq_some_iff.mp H
 obtain ⟨⟨t404, t405⟩, A150, H⟩ := H
 replace H : ((laws_toIntS.f k l2).bind fun t406 => ((spec_CountCrossings.f k t399 t400 t401 t404 t405 t406).bind fun bt409 => ((laws_toBoard.f k a0_0 a0_1 l0_2).bind fun bt411 => ((laws_toIntS.f k l2).bind fun t417 => ((laws_toLeaper.f a1_0 a1_1).bind fun bt420 => ((impl_CountCrossings.f k bt411.1 bt411.2.1 bt411.2.2 bt420.1 bt420.2 t417).bind fun bt422 => (if bt422.1 = bt409.1 then (laws_FnExactCountCrossings.j0 k l2 t417 (bt422.2 != bt409.2) a0_0 a0_1 l0_2 bt411.1 bt411.2.1 bt411.2.2) else (laws_FnExactCountCrossings.j0 k l2 t417 true a0_0 a0_1 l0_2 bt411.1 bt411.2.1 bt411.2.2)))))))) = some r := H
 have A15 := Aside0.mk A150
 clear A150
 replace H := Option.bind_eq_some_iff.mp H
 obtain ⟨t406, A160, H⟩ := H
 replace H : ((spec_CountCrossings.f k t399 t400 t401 t404 t405 t406).bind fun bt409 => ((laws_toBoard.f k a0_0 a0_1 l0_2).bind fun bt411 => ((laws_toIntS.f k l2).bind fun t417 => ((laws_toLeaper.f a1_0 a1_1).bind fun bt420 => ((impl_CountCrossings.f k bt411.1 bt411.2.1 bt411.2.2 bt420.1 bt420.2 t417).bind fun bt422 => (if bt422.1 = bt409.1 then (laws_FnExactCountCrossings.j0 k l2 t417 (bt422.2 != bt409.2) a0_0 a0_1 l0_2 bt411.1 bt411.2.1 bt411.2.2) else (laws_FnExactCountCrossings.j0 k l2 t417 true a0_0 a0_1 l0_2 bt411.1 bt411.2.1 bt411.2.2))))))) = some r := H
 have A16 := Aside0.mk A160
 clear A160
 replace H := Option.bind_eq_some_iff.mp H
 obtain ⟨⟨t409, t410⟩, A170, H⟩ := H
 replace H : ((laws_toBoard.f k a0_0 a0_1 l0_2).bind fun bt411 => ((laws_toIntS.f k l2).bind fun t417 => ((laws_toLeaper.f a1_0 a1_1).bind fun bt420 => ((impl_CountCrossings.f k bt411.1 bt411.2.1 bt411.2.2 bt420.1 bt420.2 t417).bind fun bt422 => (if bt422.1 = t409 then (laws_FnExactCountCrossings.j0 k l2 t417 (bt422.2 != t410) a0_0 a0_1 l0_2 bt411.1 bt411.2.1 bt411.2.2) else (laws_FnExactCountCrossings.j0 k l2 t417 true a0_0 a0_1 l0_2 bt411.1 bt411.2.1 bt411.2.2)))))) = some r := H
 have A17 := Aside0.mk A170
 clear A170
 replace H := Option.bind_eq_some_iff.mp H
 obtain ⟨⟨t411, t412, t413⟩, A180, H⟩ := H
 replace H : ((laws_toIntS.f k l2).bind fun t417 => ((laws_toLeaper.f a1_0 a1_1).bind fun bt420 => ((impl_CountCrossings.f k t411 t412 t413 bt420.1 bt420.2 t417).bind fun bt422 => (if bt422.1 = t409 then (laws_FnExactCountCrossings.j0 k l2 t417 (bt422.2 != t410) a0_0 a0_1 l0_2 t411 t412 t413) else (laws_FnExactCountCrossings.j0 k l2 t417 true a0_0 a0_1 l0_2 t411 t412 t413))))) = some r := H
 have A18 := Aside0.mk A180
 clear A180
 replace H := Option.bind_eq_some_iff.mp H
 obtain ⟨t417, A190, H⟩ := H
 replace H : ((laws_toLeaper.f a1_0 a1_1).bind fun bt420 => ((impl_CountCrossings.f k t411 t412 t413 bt420.1 bt420.2 t417).bind fun bt422 => (if bt422.1 = t409 then (laws_FnExactCountCrossings.j0 k l2 t417 (bt422.2 != t410) a0_0 a0_1 l0_2 t411 t412 t413) else (laws_FnExactCountCrossings.j0 k l2 t417 true a0_0 a0_1 l0_2 t411 t412 t413)))) = some r := H
 have A19 := Aside0.mk A190
 clear A190
 replace H := Option.bind_eq_some_iff.mp H
 obtain ⟨⟨t420, t421⟩, A200, H⟩ := H
 replace H : ((impl_CountCrossings.f k t411 t412 t413 t420 t421 t417).bind fun bt422 => (if bt422.1 = t409 then (laws_FnExactCountCrossings.j0 k l2 t417 (bt422.2 != t410) a0_0 a0_1 l0_2 t411 t412 t413) else (laws_FnExactCountCrossings.j0 k l2 t417 true a0_0 a0_1 l0_2 t411 t412 t413))) = some r := H
 have A20 := Aside0.mk A200
 clear A200
 replace H := Option.bind_eq_some_iff.mp H
 obtain ⟨⟨t422, t423⟩, A210, H⟩ := H
 replace H : (if t422 = t409 then (laws_FnExactCountCrossings.j0 k l2 t417 (t423 != t410) a0_0 a0_1 l0_2 t411 t412 t413) else (laws_FnExactCountCrossings.j0 k l2 t417 true a0_0 a0_1 l0_2 t411 t412 t413)) = some r := H
 have A21 := Aside0.mk A210
 clear A210
 have HC22 := Aside0.mk H
 clear H
 go_enter Try.func6, Try.ntmps6
 try go_wp2_with (first | ((with_reducible refine gate_dst (N := 3) rfl ?_); refine box_event ?hg (N := 3) ?hd (cs := #[.int .i64 a0_0, .int .i64 a0_1, .slice A0_2 l0_2.length c0_2]) (t := 24) ?hr ?_; (case hd => rfl); (case hg => rfl); (case hr => first | (go_simp; done) | (go_simp; rfl)); intro gb396 hg w23 hbox hb; have n0_ := Aside0.mk (below_step zw10 hb); have n1_ := Aside0.mk (hbox); have n2_ := Aside0.mk ((zw29 : w.heap.size ≤ gb396)); have n3_ := Aside0.mk ((zw29 : w.heap.size ≤ gb396)); clear HB; have HB := n0_; have BK396 := n1_; have GW396 := n2_; have GE396 := n3_; clear n0_ n1_ n2_ n3_; clear hb hbox hg) | ((with_reducible refine gate_dst (N := 4) rfl ?_); refine box_event ?hg (N := 4) ?hd (cs := #[.int .i64 a1_0, .int .i64 a1_1]) (t := 26) ?hr ?_; (case hd => rfl); (case hg => rfl); (case hr => first | (go_simp; done) | (go_simp; rfl)); intro gb397 hg w24 hbox hb; have n0_ := Aside0.mk (blk_below (g := gb396) (o := .cells #[.int .i64 a0_0, .int .i64 a0_1, .slice A0_2 l0_2.length c0_2] 24 (0, 0)) zw2 hb); have n1_ := Aside0.mk (below_step zw6 hb); have n2_ := Aside0.mk (hbox); have n3_ := Aside0.mk ((zw30 : w.heap.size ≤ gb397)); have n4_ := Aside0.mk ((zw30 : w.heap.size ≤ gb397)); have n5_ := Aside0.mk ((zw27 : gb396 ≠ gb397)); have n6_ := Aside0.mk ((zw28 : gb397 ≠ gb396)); clear BK396; clear HB; have BK396 := n0_; have HB := n1_; have BK397 := n2_; have GW397 := n3_; have GE397 := n4_; have NB396_397 := n5_; have NB397_396 := n6_; clear n0_ n1_ n2_ n3_ n4_ n5_ n6_; clear hb hbox hg; have hnb25 := NB396_397.out; have hnc25 := NB397_396.out; have hcz26_0 : w24.cell? ⟨gb396, 0, none⟩ = some (.int .i64 a0_0) := (blk_cell BK396.out 0).trans rfl; have hcz26_1 : w24.cell? ⟨gb396, 1, none⟩ = some (.int .i64 a0_1) := (blk_cell BK396.out 1).trans rfl; have hcz26_2 : w24.cell? ⟨gb396, 2, none⟩ = some (.slice A0_2 l0_2.length c0_2) := (blk_cell BK396.out 2).trans rfl; have hfz26_0 := blk_frozen BK396.out 0; have hfz26_1 := blk_frozen BK396.out 1; have hfz26_2 := blk_frozen BK396.out 2) | ((with_reducible refine gate_callee (f := 7) rfl ?_); refine goesL_ (some 19) rfl rfl Try.func7 (by kernel_rfl) rfl #[.agg #[.int .i64 a0_0, .int .i64 a0_1, .slice A0_2 l0_2.length c0_2], .int .i64 1048576] rfl zw4 ?_; (with_reducible refine (laws_szBoard.calls a0_0 a0_1 _ _ l0_2 1048576 t398 _ ?side1 ?side2 A7.out).mono ?_); (case side1 => exact zw11); (case side2 => exact HC0_2.out); rintro e w27 ⟨rfl, hb⟩; refine ⟨_, rfl, ?_⟩; have n0_ := Aside0.mk (blk_below (g := gb396) (o := .cells #[.int .i64 a0_0, .int .i64 a0_1, .slice A0_2 l0_2.length c0_2] 24 (0, 0)) zw2 hb); have n1_ := Aside0.mk (blk_below (g := gb397) (o := .cells #[.int .i64 a1_0, .int .i64 a1_1] 26 (0, 0)) zw5 hb); have n2_ := Aside0.mk (below_step zw3 hb); clear BK396; clear BK397; clear HB; have BK396 := n0_; have BK397 := n1_; have HB := n2_; clear n0_ n1_ n2_; (try clear hb); (try clear hb2); (try clear hk); (try clear hi); (try clear hna_); (try clear hnb_)))
 have n0_ := Aside0.mk (blk_drew BK396.out)
 have n1_ := Aside0.mk (blk_drew BK397.out)
 have n2_ := Aside0.mk (below_drew1 HB.out)
 clear BK396
 clear BK397
 clear HB
 have BK396 := n0_
 have BK397 := n1_
 have HB := n2_
 clear n0_ n1_ n2_
 refine start_ (n := 12) (S := fun w' => w'.cell? ⟨gb396, 0, none⟩ = some (.int .i64 a0_0) ∧ w'.cell? ⟨gb396, 1, none⟩ = some (.int .i64 a0_1) ∧ w'.cell? ⟨gb396, 2, none⟩ = some (.slice A0_2 l0_2.length c0_2) ∧ w'.cell? ⟨gb397, 0, none⟩ = some (.int .i64 a1_0) ∧ w'.cell? ⟨gb397, 1, none⟩ = some (.int .i64 a1_1)) (ds := []) #[false, false, false, false, false, false, false, false, false, false, false, false] (by kernel_rfl) rfl rfl ⟨(blk_cell BK396.out 0).trans rfl, (blk_cell BK396.out 1).trans rfl, (blk_cell BK396.out 2).trans rfl, (blk_cell BK397.out 0).trans rfl, (blk_cell BK397.out 1).trans rfl⟩ (fun hHeld => ?_); refine with_tabW laws_FnExactCountCrossings.tab7 laws_FnExactCountCrossings.bits7 (fun HT_ HW_ => ?_)
 generalize w27.drew = w28 at BK396 BK397 HB hHeld ⊢
 refine pure_ (i := 4) (N := some 27) (v := ?_) (a' := ?_) (bq 12 16) rfl rfl (any_of HT_.out (by kernel_rfl)) (fun _ _ _ h => h) (Or.inl ⟨by rfl, ?_⟩) ?_ ?_
 rotate_left
 ·intro w'
  go_simp
  with_reducible rfl
 rotate_left
 ·simp only [Act.put, List.setIfInBounds_toArray, List.set_cons_zero, List.set_cons_succ, i64_w, i32_w]
  rfl
 refine take_ (i := 0) (N := some 23) (v := ?_) (a' := ?_) (bq 12 17) rfl rfl (take_ofW HT_.out HW_.out (by kernel_rfl)) (fun _ _ _ h => h) (Or.inl ⟨by rfl, ?_⟩) hHeld ?_ ?_
 rotate_left
 ·rintro w' ⟨s0, s1, s2, s3, s4⟩
  go_simp
  with_reducible rfl
 rotate_left
 ·simp only [Act.put, List.setIfInBounds_toArray, List.set_cons_zero, List.set_cons_succ, i64_w, i32_w]
  rfl
 refine take_ (i := 2) (N := some 25) (v := ?_) (a' := ?_) (bq 12 21) rfl rfl (take_ofW HT_.out HW_.out (by kernel_rfl)) (fun _ _ _ h => h) (Or.inl ⟨by rfl, ?_⟩) hHeld ?_ ?_
 rotate_left
 ·rintro w' ⟨s0, s1, s2, s3, s4⟩
  go_simp
  with_reducible rfl
 rotate_left
 ·simp only [Act.put, List.setIfInBounds_toArray, List.set_cons_zero, List.set_cons_succ, i64_w, i32_w]
  rfl
 refine one_ (i := 1) (N := some 24) (bq 12 23) rfl rfl (one_of HT_.out (by kernel_rfl)) (by decide) (fun K hK => ?_)
 refine goes_ Try.func9 (by kernel_rfl) rfl #[.agg #[.int .i64 a0_0, .int .i64 a0_1, .slice A0_2 l0_2.length c0_2]] (by rfl) rfl rfl zw4 ?_
 with_reducible refine (laws_toBoard.calls k a0_0 a0_1 _ _ l0_2 t399 t400 t401 _ ?side1 ?side2 A14.out).mono ?_
 (case side1 => exact zw11)
 (case side2 => exact HC0_2.out)
 rintro e w29 ⟨v402, rfl, ho0, hb⟩
 refine ⟨_, rfl, ?_⟩
 have n0_ := Aside0.mk (Kd.R_lower ho0 (below_size zw3))
 have n1_ := Aside0.mk (blk_below (g := gb396) (o := .cells #[.int .i64 a0_0, .int .i64 a0_1, .slice A0_2 l0_2.length c0_2] 24 (0, 0)) zw2 hb)
 have n2_ := Aside0.mk (blk_below (g := gb397) (o := .cells #[.int .i64 a1_0, .int .i64 a1_1] 26 (0, 0)) zw5 hb)
 have n3_ := Aside0.mk (below_step zw3 hb)
 clear BK396
 clear BK397
 clear HB
 have HO403 := n0_
 have BK396 := n1_
 have BK397 := n2_
 have HB := n3_
 clear n0_ n1_ n2_ n3_
 (try clear hb)
 (try clear hb2)
 (try clear hk)
 (try clear hi)
 (try clear ho0)
 (try clear hna_)
 (try clear hnb_)
 refine hK.out _ _ ⟨(blk_cell BK396.out 0).trans rfl, (blk_cell BK396.out 1).trans rfl, (blk_cell BK396.out 2).trans rfl, (blk_cell BK397.out 0).trans rfl, (blk_cell BK397.out 1).trans rfl⟩ (fun hHeld => ?_)
 clear hK K
 refine norm_ (a' := ?_) ?_ ?_
 rotate_left
 ·show Act.put _ (some 24) _ = _
  simp only [Act.put, List.setIfInBounds_toArray, List.set_cons_zero, List.set_cons_succ, i64_w, i32_w]
  rfl
 refine one_ (i := 3) (N := some 26) (bq 12 31) rfl rfl (one_of HT_.out (by kernel_rfl)) (by decide) (fun K hK => ?_)
 refine goes_ Try.func10 (by kernel_rfl) rfl #[.agg #[.int .i64 a1_0, .int .i64 a1_1]] (by rfl) rfl rfl zw4 ?_
 with_reducible refine (laws_toLeaper.calls a1_0 a1_1 t404 t405 _ A15.out).mono ?_
 rintro e w30 ⟨rfl, hb⟩
 refine ⟨_, rfl, ?_⟩
 have n0_ := Aside0.mk (Kd.R_below zw12 hb)
 have n1_ := Aside0.mk (blk_below (g := gb396) (o := .cells #[.int .i64 a0_0, .int .i64 a0_1, .slice A0_2 l0_2.length c0_2] 24 (0, 0)) zw2 hb)
 have n2_ := Aside0.mk (blk_below (g := gb397) (o := .cells #[.int .i64 a1_0, .int .i64 a1_1] 26 (0, 0)) zw5 hb)
 have n3_ := Aside0.mk (below_step zw3 hb)
 clear HO403
 clear BK396
 clear BK397
 clear HB
 have HO403 := n0_
 have BK396 := n1_
 have BK397 := n2_
 have HB := n3_
 clear n0_ n1_ n2_ n3_
 (try clear hb)
 (try clear hb2)
 (try clear hk)
 (try clear hi)
 (try clear hna_)
 (try clear hnb_)
 refine hK.out _ _ ⟨(blk_cell BK396.out 0).trans rfl, (blk_cell BK396.out 1).trans rfl, (blk_cell BK396.out 2).trans rfl, (blk_cell BK397.out 0).trans rfl, (blk_cell BK397.out 1).trans rfl⟩ (fun hHeld => ?_)
 clear hK K
 refine norm_ (a' := ?_) ?_ ?_
 rotate_left
 ·show Act.put _ (some 26) _ = _
  simp only [Act.put, List.setIfInBounds_toArray, List.set_cons_zero, List.set_cons_succ, i64_w, i32_w]
  rfl
 refine one_ (i := 5) (N := some 28) (bq 12 63) rfl rfl (one_of HT_.out (by kernel_rfl)) (by decide) (fun K hK => ?_)
 refine goes_ Try.func18 (by kernel_rfl) rfl #[.slice A2 l2.length c2] (by rfl) rfl rfl zw4 ?_
 with_reducible refine (laws_toIntS.calls k _ _ l2 t406 _ ?side1 ?side2 A16.out).mono ?_
 (case side1 => exact zw21)
 (case side2 => exact HC2.out)
 rintro e w31 ⟨v407, rfl, ho0, hb⟩
 refine ⟨_, rfl, ?_⟩
 have n0_ := Aside0.mk (Kd.R_elder' zw12 (Kd.R_base ho0) hb)
 have n1_ := Aside0.mk (Kd.R_lower (Kd.R_new' ho0 (Kd.R_lt zw12)) (below_size zw3))
 have n2_ := Aside0.mk (blk_below (g := gb396) (o := .cells #[.int .i64 a0_0, .int .i64 a0_1, .slice A0_2 l0_2.length c0_2] 24 (0, 0)) zw2 hb)
 have n3_ := Aside0.mk (blk_below (g := gb397) (o := .cells #[.int .i64 a1_0, .int .i64 a1_1] 26 (0, 0)) zw5 hb)
 have n4_ := Aside0.mk (below_step zw3 hb)
 clear HO403
 clear BK396
 clear BK397
 clear HB
 have HO403 := n0_
 have HO408 := n1_
 have BK396 := n2_
 have BK397 := n3_
 have HB := n4_
 clear n0_ n1_ n2_ n3_ n4_
 (try clear hb)
 (try clear hb2)
 (try clear hk)
 (try clear hi)
 (try clear ho0)
 (try clear hna_)
 (try clear hnb_)
 obtain ⟨Ao32, co32, eo32⟩ := Kd.R_slice HO403.out
 (first | subst eo32 | (injection eo32 with f1_ f2_ f3_; have f4_ := f1_.symm; have f5_ := f3_.symm; clear f1_ f2_ f3_; subst f4_; subst f5_))
 obtain ⟨Ao33, co33, eo33⟩ := Kd.R_slice HO408.out
 (first | subst eo33 | (injection eo33 with f1_ f2_ f3_; have f4_ := f1_.symm; have f5_ := f3_.symm; clear f1_ f2_ f3_; subst f4_; subst f5_))
 refine hK.out _ _ ⟨(blk_cell BK396.out 0).trans rfl, (blk_cell BK396.out 1).trans rfl, (blk_cell BK396.out 2).trans rfl, (blk_cell BK397.out 0).trans rfl, (blk_cell BK397.out 1).trans rfl⟩ (fun hHeld => ?_)
 clear hK K
 refine norm_ (a' := ?_) ?_ ?_
 rotate_left
 ·show Act.put _ (some 28) _ = _
  simp only [Act.put, List.setIfInBounds_toArray, List.set_cons_zero, List.set_cons_succ, i64_w, i32_w]
  rfl
 refine one_ (i := 6) (N := some 29) (bq 12 127) rfl rfl (one_of HT_.out (by kernel_rfl)) (by decide) (fun K hK => ?_)
 refine goes_ Try.func25 (by kernel_rfl) rfl #[.agg #[.int .i64 t399, .int .i64 t400, .slice Ao32 t401.length co32], .agg #[.int .i64 t404, .int .i64 t405], .slice Ao33 t406.length co33] (by rfl) rfl rfl zw4 ?_
 with_reducible refine (spec_CountCrossings.calls k t399 t400 _ _ t401 t404 t405 _ _ t406 t409 t410 _ ?side1 ?side2 ?side3 ?side4 A17.out).mono ?_
 (case side1 => repeat (first | exact (Kd.R_reads' HO403.out).2.2 | (with_reducible refine Kd.C_alloc ?_ _) | (with_reducible refine Kd.C_drewN ?_ _) | (with_reducible refine Kd.C_drew ?_)))
 (case side2 => exact (Kd.R_reads' HO403.out).2.1)
 (case side3 => repeat (first | exact (Kd.R_reads' HO408.out).2.2 | (with_reducible refine Kd.C_alloc ?_ _) | (with_reducible refine Kd.C_drewN ?_ _) | (with_reducible refine Kd.C_drew ?_)))
 (case side4 => exact (Kd.R_reads' HO408.out).2.1)
 rintro e w34 ⟨rfl, hb⟩
 refine ⟨_, rfl, ?_⟩
 have n0_ := Aside0.mk (Kd.R_below zw12 hb)
 have n1_ := Aside0.mk (Kd.R_below zw14 hb)
 have n2_ := Aside0.mk (blk_below (g := gb396) (o := .cells #[.int .i64 a0_0, .int .i64 a0_1, .slice A0_2 l0_2.length c0_2] 24 (0, 0)) zw2 hb)
 have n3_ := Aside0.mk (blk_below (g := gb397) (o := .cells #[.int .i64 a1_0, .int .i64 a1_1] 26 (0, 0)) zw5 hb)
 have n4_ := Aside0.mk (below_step zw3 hb)
 clear HO403
 clear HO408
 clear BK396
 clear BK397
 clear HB
 have HO403 := n0_
 have HO408 := n1_
 have BK396 := n2_
 have BK397 := n3_
 have HB := n4_
 clear n0_ n1_ n2_ n3_ n4_
 (try clear hb)
 (try clear hb2)
 (try clear hk)
 (try clear hi)
 (try clear hna_)
 (try clear hnb_)
 refine hK.out _ _ ⟨(blk_cell BK396.out 0).trans rfl, (blk_cell BK396.out 1).trans rfl, (blk_cell BK396.out 2).trans rfl, (blk_cell BK397.out 0).trans rfl, (blk_cell BK397.out 1).trans rfl⟩ (fun hHeld => ?_)
 clear hK K
 refine norm_ (a' := ?_) ?_ ?_
 rotate_left
 ·show Act.put _ (some 29) _ = _
  simp only [Act.put, List.setIfInBounds_toArray, List.set_cons_zero, List.set_cons_succ, i64_w, i32_w]
  rfl
 refine pure_ (i := 7) (N := some 22) (v := ?_) (a' := ?_) (bq 12 255) rfl rfl (any_of HT_.out (by kernel_rfl)) (fun _ _ _ h => h) (Or.inl ⟨by rfl, ?_⟩) ?_ ?_
 rotate_left
 ·intro w'
  go_simp
  with_reducible rfl
 rotate_left
 ·simp only [Act.put, List.setIfInBounds_toArray, List.set_cons_zero, List.set_cons_succ, i64_w, i32_w]
  rfl
 refine pure_ (i := 8) (N := some 30) (v := ?_) (a' := ?_) (bq 12 511) rfl rfl (any_of HT_.out (by kernel_rfl)) (fun _ _ _ h => h) (Or.inl ⟨by rfl, ?_⟩) ?_ ?_
 rotate_left
 ·intro w'
  go_simp
  with_reducible rfl
 rotate_left
 ·simp only [Act.put, List.setIfInBounds_toArray, List.set_cons_zero, List.set_cons_succ, i64_w, i32_w]
  rfl
 refine pure_ (i := 9) (N := some 31) (v := ?_) (a' := ?_) (bq 12 1023) rfl rfl (any_of HT_.out (by kernel_rfl)) (fun _ _ _ h => h) (Or.inl ⟨by rfl, ?_⟩) ?_ ?_
 rotate_left
 ·intro w'
  go_simp
  with_reducible rfl
 rotate_left
 ·simp only [Act.put, List.setIfInBounds_toArray, List.set_cons_zero, List.set_cons_succ, i64_w, i32_w]
  rfl
 refine pure_ (i := 10) (N := some 8) (v := ?_) (a' := ?_) (bq 12 2047) rfl rfl (any_of HT_.out (by kernel_rfl)) (fun _ _ _ h => h) (Or.inl ⟨by rfl, ?_⟩) ?_ ?_
 rotate_left
 ·intro w'
  go_simp
  with_reducible rfl
 rotate_left
 ·simp only [Act.put, List.setIfInBounds_toArray, List.set_cons_zero, List.set_cons_succ, i64_w, i32_w]
  rfl
 refine pure_ (i := 11) (N := some 9) (v := ?_) (a' := ?_) (bq 12 4095) rfl rfl (any_of HT_.out (by kernel_rfl)) (fun _ _ _ h => h) (Or.inl ⟨by rfl, ?_⟩) ?_ ?_
 rotate_left
 ·intro w'
  go_simp
  with_reducible rfl
 rotate_left
 ·simp only [Act.put, List.setIfInBounds_toArray, List.set_cons_zero, List.set_cons_succ, i64_w, i32_w]
  rfl
 refine done_ (done_of HT_.out (by kernel_rfl)) ?_
 have hcz35_0 : w34.cell? ⟨gb396, 0, none⟩ = some (.int .i64 a0_0) := (blk_cell BK396.out 0).trans rfl
 have hcz35_1 : w34.cell? ⟨gb396, 1, none⟩ = some (.int .i64 a0_1) := (blk_cell BK396.out 1).trans rfl
 have hcz35_2 : w34.cell? ⟨gb396, 2, none⟩ = some (.slice A0_2 l0_2.length c0_2) := (blk_cell BK396.out 2).trans rfl
 have hfz35_0 := blk_frozen BK396.out 0
 have hfz35_1 := blk_frozen BK396.out 1
 have hfz35_2 := blk_frozen BK396.out 2
 try go_wp2_with (first | ((with_reducible refine gate_callee (f := 9) rfl ?_); refine goesL_ (some 33) rfl rfl Try.func9 (by kernel_rfl) rfl #[.agg #[.int .i64 a0_0, .int .i64 a0_1, .slice A0_2 l0_2.length c0_2]] rfl zw4 ?_; (with_reducible refine (laws_toBoard.calls k a0_0 a0_1 _ _ l0_2 t411 t412 t413 _ ?side1 ?side2 A18.out).mono ?_); (case side1 => exact zw11); (case side2 => exact HC0_2.out); rintro e w36 ⟨v414, rfl, ho0, hb⟩; refine ⟨_, rfl, ?_⟩; have n0_ := Aside0.mk (Kd.R_elder' zw12 (Kd.R_base ho0) hb); have n1_ := Aside0.mk (Kd.R_elder' zw14 (Kd.R_base ho0) hb); have n2_ := Aside0.mk (Kd.R_lower (Kd.R_new' (Kd.R_new' ho0 (Kd.R_lt zw12)) (Kd.R_lt zw14)) (below_size zw3)); have n3_ := Aside0.mk (blk_below (g := gb396) (o := .cells #[.int .i64 a0_0, .int .i64 a0_1, .slice A0_2 l0_2.length c0_2] 24 (0, 0)) zw2 hb); have n4_ := Aside0.mk (blk_below (g := gb397) (o := .cells #[.int .i64 a1_0, .int .i64 a1_1] 26 (0, 0)) zw5 hb); have n5_ := Aside0.mk (below_step zw3 hb); clear HO403; clear HO408; clear BK396; clear BK397; clear HB; have HO403 := n0_; have HO408 := n1_; have HO415 := n2_; have BK396 := n3_; have BK397 := n4_; have HB := n5_; clear n0_ n1_ n2_ n3_ n4_ n5_; (try clear hb); (try clear hb2); (try clear hk); (try clear hi); (try clear ho0); (try clear hna_); (try clear hnb_)) | ((with_reducible refine gate_dst (N := 10) rfl ?_); refine box_event ?hg (N := 10) ?hd (cs := #[.int .i64 0, .int .i64 0, .slice none 0 0]) (t := 31) ?hr ?_; (case hd => rfl); (case hg => rfl); (case hr => first | (go_simp; done) | (go_simp; rfl)); intro gb416 hg w37 hbox hb; have n0_ := Aside0.mk (Kd.R_below zw12 hb); have n1_ := Aside0.mk (Kd.R_below zw14 hb); have n2_ := Aside0.mk (Kd.R_below zw22 hb); have n3_ := Aside0.mk (blk_below (g := gb396) (o := .cells #[.int .i64 a0_0, .int .i64 a0_1, .slice A0_2 l0_2.length c0_2] 24 (0, 0)) zw2 hb); have n4_ := Aside0.mk (blk_below (g := gb397) (o := .cells #[.int .i64 a1_0, .int .i64 a1_1] 26 (0, 0)) zw5 hb); have n5_ := Aside0.mk (below_step zw3 hb); have n6_ := Aside0.mk (hbox); have n7_ := Aside0.mk ((by rw [hg]; exact (below_size zw3) : w.heap.size ≤ gb416)); have n8_ := Aside0.mk ((by rw [hg]; exact (below_size zw3) : w.heap.size ≤ gb416)); have n9_ := Aside0.mk ((zw27 : gb396 ≠ gb416)); have n10_ := Aside0.mk ((zw28 : gb416 ≠ gb396)); have n11_ := Aside0.mk ((by rw [hg]; exact Nat.ne_of_lt (blk_lt (g := gb397) (o := .cells #[.int .i64 a1_0, .int .i64 a1_1] 26 (0, 0)) zw5) : gb397 ≠ gb416)); have n12_ := Aside0.mk ((by rw [hg]; exact Nat.ne_of_gt (blk_lt (g := gb397) (o := .cells #[.int .i64 a1_0, .int .i64 a1_1] 26 (0, 0)) zw5) : gb416 ≠ gb397)); clear HO403; clear HO408; clear HO415; clear BK396; clear BK397; clear HB; have HO403 := n0_; have HO408 := n1_; have HO415 := n2_; have BK396 := n3_; have BK397 := n4_; have HB := n5_; have BK416 := n6_; have GW416 := n7_; have GE416 := n8_; have NB396_416 := n9_; have NB416_396 := n10_; have NB397_416 := n11_; have NB416_397 := n12_; clear n0_ n1_ n2_ n3_ n4_ n5_ n6_ n7_ n8_ n9_ n10_ n11_ n12_; clear hb hbox hg; have hnb38 := NB416_396.out; have hnc38 := NB396_416.out; have hnb39 := NB416_397.out; have hnc39 := NB397_416.out; have hcz40_0 : w37.cell? ⟨gb416, 0, none⟩ = some (.int .i64 0) := (blk_cell BK416.out 0).trans rfl; have hcz40_1 : w37.cell? ⟨gb416, 1, none⟩ = some (.int .i64 0) := (blk_cell BK416.out 1).trans rfl; have hcz40_2 : w37.cell? ⟨gb416, 2, none⟩ = some (.slice none 0 0) := (blk_cell BK416.out 2).trans rfl; have hfz40_0 := blk_frozen BK416.out 0; have hfz40_1 := blk_frozen BK416.out 1; have hfz40_2 := blk_frozen BK416.out 2; obtain ⟨Ao41, co41, eo41⟩ := Kd.R_slice HO415.out; subst eo41) | ((with_reducible refine gate_callee (f := 18) rfl ?_); refine goesL_ (some 35) rfl rfl Try.func18 (by kernel_rfl) rfl #[.slice A2 l2.length c2] rfl zw4 ?_; (with_reducible refine (laws_toIntS.calls k _ _ l2 t417 _ ?side1 ?side2 A19.out).mono ?_); (case side1 => exact Kd.C_below HR2.out zw1); (case side2 => exact HC2.out); rintro e w42 ⟨v418, rfl, ho0, hb⟩; refine ⟨_, rfl, ?_⟩; have n0_ := Aside0.mk (Kd.R_elder' zw18 (Kd.R_base ho0) hb); have n1_ := Aside0.mk (Kd.R_elder' zw17 (Kd.R_base ho0) hb); have n2_ := Aside0.mk (Kd.R_elder' zw16 (Kd.R_base ho0) hb); have n3_ := Aside0.mk (Kd.R_lower (Kd.R_new' (Kd.R_new' (Kd.R_new' ho0 (Kd.R_lt zw18)) (Kd.R_lt zw17)) (Kd.R_lt zw16)) (below_size zw1)); have n4_ := Aside0.mk (blk_below (g := gb396) (o := .cells #[.int .i64 a0_0, .int .i64 a0_1, .slice A0_2 l0_2.length c0_2] 24 (0, 0)) (by (with_reducible repeat (first | refine blk_drewN ?_ _ | refine blk_drew ?_ | refine blk_alloc ?_ _)); refine blk_far ?_ NB396_416.out _; (with_reducible repeat (first | refine blk_drewN ?_ _ | refine blk_drew ?_ | refine blk_alloc ?_ _)); refine blk_far ?_ NB396_416.out _; (with_reducible repeat (first | refine blk_drewN ?_ _ | refine blk_drew ?_ | refine blk_alloc ?_ _)); refine blk_far ?_ NB396_416.out _; first | exact BK396.out | ((with_reducible repeat (first | refine blk_drewN ?_ _ | refine blk_drew ?_ | refine blk_alloc ?_ _)); exact BK396.out)) hb); have n5_ := Aside0.mk (blk_below (g := gb397) (o := .cells #[.int .i64 a1_0, .int .i64 a1_1] 26 (0, 0)) (by (with_reducible repeat (first | refine blk_drewN ?_ _ | refine blk_drew ?_ | refine blk_alloc ?_ _)); refine blk_far ?_ NB397_416.out _; (with_reducible repeat (first | refine blk_drewN ?_ _ | refine blk_drew ?_ | refine blk_alloc ?_ _)); refine blk_far ?_ NB397_416.out _; (with_reducible repeat (first | refine blk_drewN ?_ _ | refine blk_drew ?_ | refine blk_alloc ?_ _)); refine blk_far ?_ NB397_416.out _; first | exact BK397.out | ((with_reducible repeat (first | refine blk_drewN ?_ _ | refine blk_drew ?_ | refine blk_alloc ?_ _)); exact BK397.out)) hb); have n6_ := Aside0.mk (blk_below (g := gb416) (o := .cells #[.int .i64 t411, .int .i64 t412, .slice Ao41 t413.length co41] 31 (0, 0)) (by (with_reducible repeat (first | refine blk_drewN ?_ _ | refine blk_drew ?_ | refine blk_alloc ?_ _)); refine blk_put (cs := #[.int .i64 t411, .int .i64 t412, .slice none 0 0]) ?_ 2 _ rfl; (with_reducible repeat (first | refine blk_drewN ?_ _ | refine blk_drew ?_ | refine blk_alloc ?_ _)); refine blk_put (cs := #[.int .i64 t411, .int .i64 0, .slice none 0 0]) ?_ 1 _ rfl; (with_reducible repeat (first | refine blk_drewN ?_ _ | refine blk_drew ?_ | refine blk_alloc ?_ _)); refine blk_put (cs := #[.int .i64 0, .int .i64 0, .slice none 0 0]) ?_ 0 _ rfl; first | exact BK416.out | ((with_reducible repeat (first | refine blk_drewN ?_ _ | refine blk_drew ?_ | refine blk_alloc ?_ _)); exact BK416.out)) hb); have n7_ := Aside0.mk (below_step zw1 hb); clear HO403; clear HO408; clear HO415; clear BK396; clear BK397; clear BK416; clear HB; have HO403 := n0_; have HO408 := n1_; have HO415 := n2_; have HO419 := n3_; have BK396 := n4_; have BK397 := n5_; have BK416 := n6_; have HB := n7_; clear n0_ n1_ n2_ n3_ n4_ n5_ n6_ n7_; (try clear hb); (try clear hb2); (try clear hk); (try clear hi); (try clear ho0); (try clear hna_); (try clear hnb_)))
 have n0_ := Aside0.mk (Kd.R_drew HO403.out)
 have n1_ := Aside0.mk (Kd.R_drew HO408.out)
 have n2_ := Aside0.mk (Kd.R_drew HO415.out)
 have n3_ := Aside0.mk (Kd.R_drew HO419.out)
 have n4_ := Aside0.mk (blk_drew BK396.out)
 have n5_ := Aside0.mk (blk_drew BK397.out)
 have n6_ := Aside0.mk (blk_drew BK416.out)
 have n7_ := Aside0.mk (below_drew1 HB.out)
 clear HO403
 clear HO408
 clear HO415
 clear HO419
 clear BK396
 clear BK397
 clear BK416
 clear HB
 have HO403 := n0_
 have HO408 := n1_
 have HO415 := n2_
 have HO419 := n3_
 have BK396 := n4_
 have BK397 := n5_
 have BK416 := n6_
 have HB := n7_
 clear n0_ n1_ n2_ n3_ n4_ n5_ n6_ n7_
 refine start_ (n := 10) (S := fun w' => w'.cell? ⟨gb416, 0, none⟩ = some (.int .i64 t411) ∧ w'.cell? ⟨gb416, 1, none⟩ = some (.int .i64 t412) ∧ w'.cell? ⟨gb416, 2, none⟩ = some (.slice Ao41 t413.length co41) ∧ w'.cell? ⟨gb397, 0, none⟩ = some (.int .i64 a1_0) ∧ w'.cell? ⟨gb397, 1, none⟩ = some (.int .i64 a1_1)) (ds := []) #[false, false, false, false, false, false, false, false, false, false] (by kernel_rfl) rfl rfl ⟨(blk_cell BK416.out 0).trans rfl, (blk_cell BK416.out 1).trans rfl, (blk_cell BK416.out 2).trans rfl, (blk_cell BK397.out 0).trans rfl, (blk_cell BK397.out 1).trans rfl⟩ (fun hHeld => ?_); refine with_tabW laws_FnExactCountCrossings.tab10 laws_FnExactCountCrossings.bits10 (fun HT_ HW_ => ?_)
 generalize w42.drew = w43 at HO403 HO408 HO415 HO419 BK396 BK397 BK416 HB hHeld ⊢
 refine pure_ (i := 3) (N := some 40) (v := ?_) (a' := ?_) (bq 10 8) rfl rfl (any_of HT_.out (by kernel_rfl)) (fun _ _ _ h => h) (Or.inl ⟨by rfl, ?_⟩) ?_ ?_
 rotate_left
 ·intro w'
  go_simp
  with_reducible rfl
 rotate_left
 ·simp only [Act.put, List.setIfInBounds_toArray, List.set_cons_zero, List.set_cons_succ, i64_w, i32_w]
  rfl
 refine take_ (i := 0) (N := some 37) (v := ?_) (a' := ?_) (bq 10 9) rfl rfl (take_ofW HT_.out HW_.out (by kernel_rfl)) (fun _ _ _ h => h) (Or.inl ⟨by rfl, ?_⟩) hHeld ?_ ?_
 rotate_left
 ·rintro w' ⟨s0, s1, s2, s3, s4⟩
  go_simp
  with_reducible rfl
 rotate_left
 ·simp only [Act.put, List.setIfInBounds_toArray, List.set_cons_zero, List.set_cons_succ, i64_w, i32_w]
  rfl
 refine take_ (i := 1) (N := some 38) (v := ?_) (a' := ?_) (bq 10 11) rfl rfl (take_ofW HT_.out HW_.out (by kernel_rfl)) (fun _ _ _ h => h) (Or.inl ⟨by rfl, ?_⟩) hHeld ?_ ?_
 rotate_left
 ·rintro w' ⟨s0, s1, s2, s3, s4⟩
  go_simp
  with_reducible rfl
 rotate_left
 ·simp only [Act.put, List.setIfInBounds_toArray, List.set_cons_zero, List.set_cons_succ, i64_w, i32_w]
  rfl
 refine one_ (i := 2) (N := some 39) (bq 10 15) rfl rfl (one_of HT_.out (by kernel_rfl)) (by decide) (fun K hK => ?_)
 refine goes_ Try.func10 (by kernel_rfl) rfl #[.agg #[.int .i64 a1_0, .int .i64 a1_1]] (by rfl) rfl rfl zw4 ?_
 with_reducible refine (laws_toLeaper.calls a1_0 a1_1 t420 t421 _ A20.out).mono ?_
 rintro e w44 ⟨rfl, hb⟩
 refine ⟨_, rfl, ?_⟩
 have n0_ := Aside0.mk (Kd.R_below zw12 hb)
 have n1_ := Aside0.mk (Kd.R_below zw14 hb)
 have n2_ := Aside0.mk (Kd.R_below zw22 hb)
 have n3_ := Aside0.mk (Kd.R_below (by first | exact HO419.out | ((with_reducible repeat (first | apply Kd.R_alloc | apply Kd.R_drewN | apply Kd.R_drew)); exact HO419.out)) hb)
 have n4_ := Aside0.mk (blk_below (g := gb396) (o := .cells #[.int .i64 a0_0, .int .i64 a0_1, .slice A0_2 l0_2.length c0_2] 24 (0, 0)) zw2 hb)
 have n5_ := Aside0.mk (blk_below (g := gb397) (o := .cells #[.int .i64 a1_0, .int .i64 a1_1] 26 (0, 0)) zw5 hb)
 have n6_ := Aside0.mk (blk_below (g := gb416) (o := .cells #[.int .i64 t411, .int .i64 t412, .slice Ao41 t413.length co41] 31 (0, 0)) zw8 hb)
 have n7_ := Aside0.mk (below_step zw1 hb)
 clear HO403
 clear HO408
 clear HO415
 clear HO419
 clear BK396
 clear BK397
 clear BK416
 clear HB
 have HO403 := n0_
 have HO408 := n1_
 have HO415 := n2_
 have HO419 := n3_
 have BK396 := n4_
 have BK397 := n5_
 have BK416 := n6_
 have HB := n7_
 clear n0_ n1_ n2_ n3_ n4_ n5_ n6_ n7_
 (try clear hb)
 (try clear hb2)
 (try clear hk)
 (try clear hi)
 (try clear hna_)
 (try clear hnb_)
 obtain ⟨Ao45, co45, eo45⟩ := Kd.R_slice HO419.out
 (first | subst eo45 | (injection eo45 with f1_ f2_ f3_; have f4_ := f1_.symm; have f5_ := f3_.symm; clear f1_ f2_ f3_; subst f4_; subst f5_))
 refine hK.out _ _ ⟨(blk_cell BK416.out 0).trans rfl, (blk_cell BK416.out 1).trans rfl, (blk_cell BK416.out 2).trans rfl, (blk_cell BK397.out 0).trans rfl, (blk_cell BK397.out 1).trans rfl⟩ (fun hHeld => ?_)
 clear hK K
 refine norm_ (a' := ?_) ?_ ?_
 rotate_left
 ·show Act.put _ (some 39) _ = _
  simp only [Act.put, List.setIfInBounds_toArray, List.set_cons_zero, List.set_cons_succ, i64_w, i32_w]
  rfl
 refine one_ (i := 4) (N := some 41) (bq 10 31) rfl rfl (one_of HT_.out (by kernel_rfl)) (by decide) (fun K hK => ?_)
 refine goes_ Try.func26 (by kernel_rfl) rfl #[.agg #[.int .i64 t411, .int .i64 t412, .slice Ao41 t413.length co41], .agg #[.int .i64 t420, .int .i64 t421], .slice Ao45 t417.length co45] (by rfl) rfl rfl zw4 ?_
 with_reducible refine (impl_CountCrossings.calls k t411 t412 _ _ t413 t420 t421 _ _ t417 t422 t423 _ ?side1 ?side2 ?side3 ?side4 A21.out).mono ?_
 (case side1 => repeat (first | exact (Kd.R_reads' HO415.out).2.2 | (with_reducible refine Kd.C_alloc ?_ _) | (with_reducible refine Kd.C_drewN ?_ _) | (with_reducible refine Kd.C_drew ?_)))
 (case side2 => exact (Kd.R_reads' HO415.out).2.1)
 (case side3 => repeat (first | exact (Kd.R_reads' HO419.out).2.2 | (with_reducible refine Kd.C_alloc ?_ _) | (with_reducible refine Kd.C_drewN ?_ _) | (with_reducible refine Kd.C_drew ?_)))
 (case side4 => exact (Kd.R_reads' HO419.out).2.1)
 rintro e w46 ⟨rfl, hb⟩
 refine ⟨_, rfl, ?_⟩
 have n0_ := Aside0.mk (Kd.R_below zw12 hb)
 have n1_ := Aside0.mk (Kd.R_below zw14 hb)
 have n2_ := Aside0.mk (Kd.R_below zw22 hb)
 have n3_ := Aside0.mk (Kd.R_below (by first | exact HO419.out | ((with_reducible repeat (first | apply Kd.R_alloc | apply Kd.R_drewN | apply Kd.R_drew)); exact HO419.out)) hb)
 have n4_ := Aside0.mk (blk_below (g := gb396) (o := .cells #[.int .i64 a0_0, .int .i64 a0_1, .slice A0_2 l0_2.length c0_2] 24 (0, 0)) zw2 hb)
 have n5_ := Aside0.mk (blk_below (g := gb397) (o := .cells #[.int .i64 a1_0, .int .i64 a1_1] 26 (0, 0)) zw5 hb)
 have n6_ := Aside0.mk (blk_below (g := gb416) (o := .cells #[.int .i64 t411, .int .i64 t412, .slice Ao41 t413.length co41] 31 (0, 0)) zw8 hb)
 have n7_ := Aside0.mk (below_step zw1 hb)
 clear HO403
 clear HO408
 clear HO415
 clear HO419
 clear BK396
 clear BK397
 clear BK416
 clear HB
 have HO403 := n0_
 have HO408 := n1_
 have HO415 := n2_
 have HO419 := n3_
 have BK396 := n4_
 have BK397 := n5_
 have BK416 := n6_
 have HB := n7_
 clear n0_ n1_ n2_ n3_ n4_ n5_ n6_ n7_
 (try clear hb)
 (try clear hb2)
 (try clear hk)
 (try clear hi)
 (try clear hna_)
 (try clear hnb_)
 refine hK.out _ _ ⟨(blk_cell BK416.out 0).trans rfl, (blk_cell BK416.out 1).trans rfl, (blk_cell BK416.out 2).trans rfl, (blk_cell BK397.out 0).trans rfl, (blk_cell BK397.out 1).trans rfl⟩ (fun hHeld => ?_)
 clear hK K
 refine norm_ (a' := ?_) ?_ ?_
 rotate_left
 ·show Act.put _ (some 41) _ = _
  simp only [Act.put, List.setIfInBounds_toArray, List.set_cons_zero, List.set_cons_succ, i64_w, i32_w]
  rfl
 refine pure_ (i := 5) (N := some 36) (v := ?_) (a' := ?_) (bq 10 63) rfl rfl (any_of HT_.out (by kernel_rfl)) (fun _ _ _ h => h) (Or.inl ⟨by rfl, ?_⟩) ?_ ?_
 rotate_left
 ·intro w'
  go_simp
  with_reducible rfl
 rotate_left
 ·simp only [Act.put, List.setIfInBounds_toArray, List.set_cons_zero, List.set_cons_succ, i64_w, i32_w]
  rfl
 refine pure_ (i := 6) (N := some 42) (v := ?_) (a' := ?_) (bq 10 127) rfl rfl (any_of HT_.out (by kernel_rfl)) (fun _ _ _ h => h) (Or.inl ⟨by rfl, ?_⟩) ?_ ?_
 rotate_left
 ·intro w'
  go_simp
  with_reducible rfl
 rotate_left
 ·simp only [Act.put, List.setIfInBounds_toArray, List.set_cons_zero, List.set_cons_succ, i64_w, i32_w]
  rfl
 refine pure_ (i := 7) (N := some 43) (v := ?_) (a' := ?_) (bq 10 255) rfl rfl (any_of HT_.out (by kernel_rfl)) (fun _ _ _ h => h) (Or.inl ⟨by rfl, ?_⟩) ?_ ?_
 rotate_left
 ·intro w'
  go_simp
  with_reducible rfl
 rotate_left
 ·simp only [Act.put, List.setIfInBounds_toArray, List.set_cons_zero, List.set_cons_succ, i64_w, i32_w]
  rfl
 refine pure_ (i := 8) (N := some 12) (v := ?_) (a' := ?_) (bq 10 511) rfl rfl (any_of HT_.out (by kernel_rfl)) (fun _ _ _ h => h) (Or.inl ⟨by rfl, ?_⟩) ?_ ?_
 rotate_left
 ·intro w'
  go_simp
  with_reducible rfl
 rotate_left
 ·simp only [Act.put, List.setIfInBounds_toArray, List.set_cons_zero, List.set_cons_succ, i64_w, i32_w]
  rfl
 refine pure_ (i := 9) (N := some 13) (v := ?_) (a' := ?_) (bq 10 1023) rfl rfl (any_of HT_.out (by kernel_rfl)) (fun _ _ _ h => h) (Or.inl ⟨by rfl, ?_⟩) ?_ ?_
 rotate_left
 ·intro w'
  go_simp
  with_reducible rfl
 rotate_left
 ·simp only [Act.put, List.setIfInBounds_toArray, List.set_cons_zero, List.set_cons_succ, i64_w, i32_w]
  rfl
 refine done_ (done_of HT_.out (by kernel_rfl)) ?_
 go_upto_region 11 with (fail)
 go_cut [51] (fun v51 wc => ∃ (kq : Nat) (x51_21 : Bool), v51 = .bool x51_21 ∧ Aside0 (laws_FnExactCountCrossings.j0 kq l2 t417 x51_21 a0_0 a0_1 l0_2 t411 t412 t413 = some r) ∧ Aside0 (kq ≤ k) ∧ Aside0 (Kd.R (Kd.int .i64) 3 wc w.heap.size (fun k_ => some k_ ≠ ((.slice Ao41 t413.length co41) : Value).ownBlock) (.slice Ao45 t417.length co45) t417) ∧ Aside0 (Kd.R (Kd.int .i64) 3 wc w.heap.size (fun k_ => some k_ ≠ ((.slice Ao45 t417.length co45) : Value).ownBlock) (.slice Ao41 t413.length co41) t413) ∧ Aside0 (wc.heap[gb396]? = some (.cells #[.int .i64 a0_0, .int .i64 a0_1, (.slice A0_2 l0_2.length c0_2)] 24 (0, 0))) ∧ Aside0 (wc.heap[gb397]? = some (.cells #[.int .i64 a1_0, .int .i64 a1_1] 26 (0, 0))) ∧ Aside0 (wc.heap[gb416]? = some (.cells #[.int .i64 t411, .int .i64 t412, (.slice Ao41 t413.length co41)] 31 (0, 0))) ∧ Aside0 (Below w.heap.size w wc))
 case first =>
  have H := HC22.out
  clear HC22
  by_cases c47 : t422 = t409
  rotate_left
  ·rw [if_neg c47] at H
   have c47b0 : (t422 == t409) = false := beq_eq_false_iff_ne.mpr c47
   have c47b1 : (t422 != t409) = true := bne_iff_ne.mpr c47
   (first | rw [c47b0] | (simp only [i64_w, i32_w]; rw [c47b0]) | skip)
   have H' := Aside0.mk H
   clear H
   go_wp2
   go_meet
   case rel => exact ⟨_, (true), (by first | rfl | (simp; done) | (simp [*]; done)), H', ⟨by first | omega | exact Nat.le_refl _⟩, ⟨zw25⟩, ⟨zw26⟩, ⟨zw2⟩, ⟨zw5⟩, ⟨zw8⟩, ⟨zw1⟩⟩
  rw [if_pos c47] at H
  have c47b0 : (t422 == t409) = true := beq_iff_eq.mpr c47
  have c47b1 : (t422 != t409) = false := bne_eq_false_iff_eq.mpr c47
  clear c47
  (first | rw [c47b0] | (simp only [i64_w, i32_w]; rw [c47b0]) | skip)
  have H' := Aside0.mk H
  clear H
  go_wp2
  go_meet
  case rel => exact ⟨_, ((t423 != t410)), (by first | rfl | (simp; done) | (simp [*]; done)), H', ⟨by first | omega | exact Nat.le_refl _⟩, ⟨zw25⟩, ⟨zw26⟩, ⟨zw2⟩, ⟨zw5⟩, ⟨zw8⟩, ⟨zw1⟩⟩
 case rest =>
  clear HC22
  try clear c1; try clear c2; try clear p2; try clear c3; try clear c4; try clear c4b0; try clear c4b1; try clear c6; try clear c7; try clear c8; try clear c8b0; try clear c9; try clear c10; try clear c11; try clear c18; try clear c25; try clear c26; try clear c38; try clear c39; try clear c47; try clear c47b0; try clear c47b1; try clear hcz12_0; try clear hcz12_1; try clear hcz12_2; try clear hcz26_0; try clear hcz26_1; try clear hcz26_2; try clear hcz35_0; try clear hcz35_1; try clear hcz35_2; try clear hcz40_0; try clear hcz40_1; try clear hcz40_2; try clear hfz12_0; try clear hfz12_1; try clear hfz12_2
  try clear hfz26_0; try clear hfz26_1; try clear hfz26_2; try clear hfz35_0; try clear hfz35_1; try clear hfz35_2; try clear hfz40_0; try clear hfz40_1; try clear hfz40_2
  obtain ⟨kq, x51_21, rfl, HA, HJ21, HO_11, HO_417002, BK396, BK397, BK416, HB⟩ := hcut
  cases kq with
  | zero => exact absurd HA.out (by simp [laws_FnExactCountCrossings.j0])
  | succ kj21 =>
   have H := HA.out
   clear HA
   simp only [laws_FnExactCountCrossings.j0] at H
   by_cases c48 : x51_21 = true
   ·subst c48
    have H1 : (some false) = some r := by rw [if_pos rfl] at H; exact H
    clear H
    have H := H1
    clear H1
    obtain rfl := Option.some.inj H
    go_wp2
    go_ret
    exact ⟨zw15, zw1⟩
   replace c48 := Bool.eq_false_iff.mpr c48
   subst c48
   have H1 : ((laws_toBoard.f kj21 a0_0 a0_1 l0_2).bind fun bt424 => ((laws_eqBoard.f kj21 t411 t412 t413 bt424.1 bt424.2.1 bt424.2.2).bind fun t429 => (if t429 = true then ((laws_toIntS.f kj21 l2).bind fun t430 => ((laws_eqIntS.f kj21 t417 t430).bind fun t433 => (if t433 = true then (some true) else (some false)))) else (some false)))) = some r := by rw [if_neg (show ¬ (false = true) by decide)] at H; exact H
   clear H
   have H := H1
   clear H1
   replace H := Option.bind_eq_some_iff.mp H
   obtain ⟨⟨t424, t425, t426⟩, A490, H⟩ := H
   replace H : ((laws_eqBoard.f kj21 t411 t412 t413 t424 t425 t426).bind fun t429 => (if t429 = true then ((laws_toIntS.f kj21 l2).bind fun t430 => ((laws_eqIntS.f kj21 t417 t430).bind fun t433 => (if t433 = true then (some true) else (some false)))) else (some false))) = some r := H
   have A49 := Aside0.mk A490
   clear A490
   replace H := Option.bind_eq_some_iff.mp H
   obtain ⟨t429, A500, H⟩ := H
   replace H : (if t429 = true then ((laws_toIntS.f kj21 l2).bind fun t430 => ((laws_eqIntS.f kj21 t417 t430).bind fun t433 => (if t433 = true then (some true) else (some false)))) else (some false)) = some r := H
   have A50 := Aside0.mk A500
   clear A500
   by_cases c51 : t429 = true
   rotate_left
   ·replace c51 := Bool.eq_false_iff.mpr c51
    subst c51
    have H1 : (some false) = some r := by rw [if_neg (show ¬ (false = true) by decide)] at H; exact H
    clear H
    have H := H1
    clear H1
    obtain rfl := Option.some.inj H
    try go_wp2
    have n0_ := Aside0.mk (Kd.R_drew HO_11.out)
    have n1_ := Aside0.mk (Kd.R_drew HO_417002.out)
    have n2_ := Aside0.mk (blk_drew BK396.out)
    have n3_ := Aside0.mk (blk_drew BK397.out)
    have n4_ := Aside0.mk (blk_drew BK416.out)
    have n5_ := Aside0.mk (below_drew1 HB.out)
    clear HO_11
    clear HO_417002
    clear BK396
    clear BK397
    clear BK416
    clear HB
    have HO_11 := n0_
    have HO_417002 := n1_
    have BK396 := n2_
    have BK397 := n3_
    have BK416 := n4_
    have HB := n5_
    clear n0_ n1_ n2_ n3_ n4_ n5_
    refine start_ (n := 5) (S := fun w' => w'.cell? ⟨gb416, 0, none⟩ = some (.int .i64 t411) ∧ w'.cell? ⟨gb416, 1, none⟩ = some (.int .i64 t412) ∧ w'.cell? ⟨gb416, 2, none⟩ = some (.slice Ao41 t413.length co41) ∧ w'.cell? ⟨gb396, 0, none⟩ = some (.int .i64 a0_0) ∧ w'.cell? ⟨gb396, 1, none⟩ = some (.int .i64 a0_1) ∧ w'.cell? ⟨gb396, 2, none⟩ = some (.slice A0_2 l0_2.length c0_2)) (ds := []) #[false, false, false, false, false] (by kernel_rfl) rfl rfl ⟨(blk_cell BK416.out 0).trans rfl, (blk_cell BK416.out 1).trans rfl, (blk_cell BK416.out 2).trans rfl, (blk_cell BK396.out 0).trans rfl, (blk_cell BK396.out 1).trans rfl, (blk_cell BK396.out 2).trans rfl⟩ (fun hHeld => ?_)
    generalize wc.drew = w67 at HO_11 HO_417002 BK396 BK397 BK416 HB hHeld ⊢
    refine take_ (i := 0) (N := some 52) (v := ?_) (a' := ?_) (bq 5 1) rfl rfl (by kernel_rfl) (fun _ _ _ h => h) (Or.inl ⟨by rfl, ?_⟩) hHeld ?_ ?_
    rotate_left
    ·rintro w' ⟨s0, s1, s2, s3, s4, s5⟩
     go_simp
     with_reducible rfl
    rotate_left
    ·simp only [Act.put, List.setIfInBounds_toArray, List.set_cons_zero, List.set_cons_succ, i64_w, i32_w]
     rfl
    refine take_ (i := 1) (N := some 53) (v := ?_) (a' := ?_) (bq 5 3) rfl rfl (by kernel_rfl) (fun _ _ _ h => h) (Or.inl ⟨by rfl, ?_⟩) hHeld ?_ ?_
    rotate_left
    ·rintro w' ⟨s0, s1, s2, s3, s4, s5⟩
     go_simp
     with_reducible rfl
    rotate_left
    ·simp only [Act.put, List.setIfInBounds_toArray, List.set_cons_zero, List.set_cons_succ, i64_w, i32_w]
     rfl
    refine one_ (i := 2) (N := some 54) (bq 5 7) rfl rfl (by kernel_rfl) (by decide) (fun K hK => ?_)
    refine goes_ Try.func9 (by kernel_rfl) rfl #[.agg #[.int .i64 a0_0, .int .i64 a0_1, .slice A0_2 l0_2.length c0_2]] (by rfl) rfl rfl zw4 ?_
    with_reducible refine (laws_toBoard.calls kj21 a0_0 a0_1 _ _ l0_2 t424 t425 t426 _ ?side1 ?side2 A49.out).mono ?_
    (case side1 => exact zw11)
    (case side2 => exact HC0_2.out)
    rintro e w68 ⟨v427, rfl, ho0, hb⟩
    refine ⟨_, rfl, ?_⟩
    have n0_ := Aside0.mk (Kd.R_elder' zw9 (Kd.R_base ho0) hb)
    have n1_ := Aside0.mk (Kd.R_elder' zw7 (Kd.R_base ho0) hb)
    have n2_ := Aside0.mk (Kd.R_lower (Kd.R_new' (Kd.R_new' ho0 (Kd.R_lt zw9)) (Kd.R_lt zw7)) (below_size zw1))
    have n3_ := Aside0.mk (blk_below (g := gb396) (o := .cells #[.int .i64 a0_0, .int .i64 a0_1, .slice A0_2 l0_2.length c0_2] 24 (0, 0)) zw2 hb)
    have n4_ := Aside0.mk (blk_below (g := gb397) (o := .cells #[.int .i64 a1_0, .int .i64 a1_1] 26 (0, 0)) zw5 hb)
    have n5_ := Aside0.mk (blk_below (g := gb416) (o := .cells #[.int .i64 t411, .int .i64 t412, .slice Ao41 t413.length co41] 31 (0, 0)) zw8 hb)
    have n6_ := Aside0.mk (below_step zw1 hb)
    clear HO_11
    clear HO_417002
    clear BK396
    clear BK397
    clear BK416
    clear HB
    have HO_11 := n0_
    have HO_417002 := n1_
    have HO428 := n2_
    have BK396 := n3_
    have BK397 := n4_
    have BK416 := n5_
    have HB := n6_
    clear n0_ n1_ n2_ n3_ n4_ n5_ n6_
    (try clear hb)
    (try clear hb2)
    (try clear hk)
    (try clear hi)
    (try clear ho0)
    (try clear hna_)
    (try clear hnb_)
    obtain ⟨Ao69, co69, eo69⟩ := Kd.R_slice HO428.out
    (first | subst eo69 | (injection eo69 with f1_ f2_ f3_; have f4_ := f1_.symm; have f5_ := f3_.symm; clear f1_ f2_ f3_; subst f4_; subst f5_))
    refine hK.out _ _ ⟨(blk_cell BK416.out 0).trans rfl, (blk_cell BK416.out 1).trans rfl, (blk_cell BK416.out 2).trans rfl, (blk_cell BK396.out 0).trans rfl, (blk_cell BK396.out 1).trans rfl, (blk_cell BK396.out 2).trans rfl⟩ (fun hHeld => ?_)
    clear hK K
    refine norm_ (a' := ?_) ?_ ?_
    rotate_left
    ·show Act.put _ (some 54) _ = _
     simp only [Act.put, List.setIfInBounds_toArray, List.set_cons_zero, List.set_cons_succ, i64_w, i32_w]
     rfl
    refine one_ (i := 3) (N := some 55) (bq 5 15) rfl rfl (by kernel_rfl) (by decide) (fun K hK => ?_)
    refine goes_ Try.func13 (by kernel_rfl) rfl #[.agg #[.int .i64 t411, .int .i64 t412, .slice Ao41 t413.length co41], .agg #[.int .i64 t424, .int .i64 t425, .slice Ao69 t426.length co69]] (by rfl) rfl rfl zw4 ?_
    with_reducible refine (laws_eqBoard.calls kj21 t411 t412 _ _ t413 t424 t425 _ _ t426 false _ ?side1 ?side2 ?side3 ?side4 A50.out).mono ?_
    (case side1 => exact zw19)
    (case side2 => exact (Kd.R_reads' HO_417002.out).2.1)
    (case side3 => exact zw20)
    (case side4 => exact (Kd.R_reads' HO428.out).2.1)
    rintro e w70 ⟨rfl, hb⟩
    refine ⟨_, rfl, ?_⟩
    have n0_ := Aside0.mk (Kd.R_below zw9 hb)
    have n1_ := Aside0.mk (Kd.R_below zw7 hb)
    have n2_ := Aside0.mk (Kd.R_below zw13 hb)
    have n3_ := Aside0.mk (blk_below (g := gb396) (o := .cells #[.int .i64 a0_0, .int .i64 a0_1, .slice A0_2 l0_2.length c0_2] 24 (0, 0)) zw2 hb)
    have n4_ := Aside0.mk (blk_below (g := gb397) (o := .cells #[.int .i64 a1_0, .int .i64 a1_1] 26 (0, 0)) zw5 hb)
    have n5_ := Aside0.mk (blk_below (g := gb416) (o := .cells #[.int .i64 t411, .int .i64 t412, .slice Ao41 t413.length co41] 31 (0, 0)) zw8 hb)
    have n6_ := Aside0.mk (below_step zw1 hb)
    clear HO_11
    clear HO_417002
    clear HO428
    clear BK396
    clear BK397
    clear BK416
    clear HB
    have HO_11 := n0_
    have HO_417002 := n1_
    have HO428 := n2_
    have BK396 := n3_
    have BK397 := n4_
    have BK416 := n5_
    have HB := n6_
    clear n0_ n1_ n2_ n3_ n4_ n5_ n6_
    (try clear hb)
    (try clear hb2)
    (try clear hk)
    (try clear hi)
    (try clear hna_)
    (try clear hnb_)
    refine hK.out _ _ ⟨(blk_cell BK416.out 0).trans rfl, (blk_cell BK416.out 1).trans rfl, (blk_cell BK416.out 2).trans rfl, (blk_cell BK396.out 0).trans rfl, (blk_cell BK396.out 1).trans rfl, (blk_cell BK396.out 2).trans rfl⟩ (fun hHeld => ?_)
    clear hK K
    refine norm_ (a' := ?_) ?_ ?_
    rotate_left
    ·show Act.put _ (some 55) _ = _
     simp only [Act.put, List.setIfInBounds_toArray, List.set_cons_zero, List.set_cons_succ, i64_w, i32_w]
     rfl
    refine pure_ (i := 4) (N := some 56) (v := ?_) (a' := ?_) (bq 5 31) rfl rfl (by kernel_rfl) (fun _ _ _ h => h) (Or.inl ⟨by rfl, ?_⟩) ?_ ?_
    rotate_left
    ·intro w'
     go_simp
     with_reducible rfl
    rotate_left
    ·simp only [Act.put, List.setIfInBounds_toArray, List.set_cons_zero, List.set_cons_succ, i64_w, i32_w]
     rfl
    refine done_ (by kernel_rfl) ?_
    try go_wp2
    go_ret
    exact ⟨zw15, zw1⟩
   subst c51
   have H1 : ((laws_toIntS.f kj21 l2).bind fun t430 => ((laws_eqIntS.f kj21 t417 t430).bind fun t433 => (if t433 = true then (some true) else (some false)))) = some r := by rw [if_pos rfl] at H; exact H
   clear H
   have H := H1
   clear H1
   replace H := Option.bind_eq_some_iff.mp H
   obtain ⟨t430, A520, H⟩ := H
   replace H : ((laws_eqIntS.f kj21 t417 t430).bind fun t433 => (if t433 = true then (some true) else (some false))) = some r := H
   have A52 := Aside0.mk A520
   clear A520
   replace H := Option.bind_eq_some_iff.mp H
   obtain ⟨t433, A530, H⟩ := H
   replace H : (if t433 = true then (some true) else (some false)) = some r := H
   have A53 := Aside0.mk A530
   clear A530
   by_cases c54 : t433 = true
   ·subst c54
    have H1 : (some true) = some r := by rw [if_pos rfl] at H; exact H
    clear H
    have H := H1
    clear H1
    obtain rfl := Option.some.inj H
    try go_wp2
    have n0_ := Aside0.mk (Kd.R_drew HO_11.out)
    have n1_ := Aside0.mk (Kd.R_drew HO_417002.out)
    have n2_ := Aside0.mk (blk_drew BK396.out)
    have n3_ := Aside0.mk (blk_drew BK397.out)
    have n4_ := Aside0.mk (blk_drew BK416.out)
    have n5_ := Aside0.mk (below_drew1 HB.out)
    clear HO_11
    clear HO_417002
    clear BK396
    clear BK397
    clear BK416
    clear HB
    have HO_11 := n0_
    have HO_417002 := n1_
    have BK396 := n2_
    have BK397 := n3_
    have BK416 := n4_
    have HB := n5_
    clear n0_ n1_ n2_ n3_ n4_ n5_
    refine start_ (n := 5) (S := fun w' => w'.cell? ⟨gb416, 0, none⟩ = some (.int .i64 t411) ∧ w'.cell? ⟨gb416, 1, none⟩ = some (.int .i64 t412) ∧ w'.cell? ⟨gb416, 2, none⟩ = some (.slice Ao41 t413.length co41) ∧ w'.cell? ⟨gb396, 0, none⟩ = some (.int .i64 a0_0) ∧ w'.cell? ⟨gb396, 1, none⟩ = some (.int .i64 a0_1) ∧ w'.cell? ⟨gb396, 2, none⟩ = some (.slice A0_2 l0_2.length c0_2)) (ds := []) #[false, false, false, false, false] (by kernel_rfl) rfl rfl ⟨(blk_cell BK416.out 0).trans rfl, (blk_cell BK416.out 1).trans rfl, (blk_cell BK416.out 2).trans rfl, (blk_cell BK396.out 0).trans rfl, (blk_cell BK396.out 1).trans rfl, (blk_cell BK396.out 2).trans rfl⟩ (fun hHeld => ?_)
    generalize wc.drew = w55 at HO_11 HO_417002 BK396 BK397 BK416 HB hHeld ⊢
    refine take_ (i := 0) (N := some 52) (v := ?_) (a' := ?_) (bq 5 1) rfl rfl (by kernel_rfl) (fun _ _ _ h => h) (Or.inl ⟨by rfl, ?_⟩) hHeld ?_ ?_
    rotate_left
    ·rintro w' ⟨s0, s1, s2, s3, s4, s5⟩
     go_simp
     with_reducible rfl
    rotate_left
    ·simp only [Act.put, List.setIfInBounds_toArray, List.set_cons_zero, List.set_cons_succ, i64_w, i32_w]
     rfl
    refine take_ (i := 1) (N := some 53) (v := ?_) (a' := ?_) (bq 5 3) rfl rfl (by kernel_rfl) (fun _ _ _ h => h) (Or.inl ⟨by rfl, ?_⟩) hHeld ?_ ?_
    rotate_left
    ·rintro w' ⟨s0, s1, s2, s3, s4, s5⟩
     go_simp
     with_reducible rfl
    rotate_left
    ·simp only [Act.put, List.setIfInBounds_toArray, List.set_cons_zero, List.set_cons_succ, i64_w, i32_w]
     rfl
    refine one_ (i := 2) (N := some 54) (bq 5 7) rfl rfl (by kernel_rfl) (by decide) (fun K hK => ?_)
    refine goes_ Try.func9 (by kernel_rfl) rfl #[.agg #[.int .i64 a0_0, .int .i64 a0_1, .slice A0_2 l0_2.length c0_2]] (by rfl) rfl rfl zw4 ?_
    with_reducible refine (laws_toBoard.calls kj21 a0_0 a0_1 _ _ l0_2 t424 t425 t426 _ ?side1 ?side2 A49.out).mono ?_
    (case side1 => exact zw11)
    (case side2 => exact HC0_2.out)
    rintro e w56 ⟨v427, rfl, ho0, hb⟩
    refine ⟨_, rfl, ?_⟩
    have n0_ := Aside0.mk (Kd.R_elder' zw9 (Kd.R_base ho0) hb)
    have n1_ := Aside0.mk (Kd.R_elder' zw7 (Kd.R_base ho0) hb)
    have n2_ := Aside0.mk (Kd.R_lower (Kd.R_new' (Kd.R_new' ho0 (Kd.R_lt zw9)) (Kd.R_lt zw7)) (below_size zw1))
    have n3_ := Aside0.mk (blk_below (g := gb396) (o := .cells #[.int .i64 a0_0, .int .i64 a0_1, .slice A0_2 l0_2.length c0_2] 24 (0, 0)) zw2 hb)
    have n4_ := Aside0.mk (blk_below (g := gb397) (o := .cells #[.int .i64 a1_0, .int .i64 a1_1] 26 (0, 0)) zw5 hb)
    have n5_ := Aside0.mk (blk_below (g := gb416) (o := .cells #[.int .i64 t411, .int .i64 t412, .slice Ao41 t413.length co41] 31 (0, 0)) zw8 hb)
    have n6_ := Aside0.mk (below_step zw1 hb)
    clear HO_11
    clear HO_417002
    clear BK396
    clear BK397
    clear BK416
    clear HB
    have HO_11 := n0_
    have HO_417002 := n1_
    have HO428 := n2_
    have BK396 := n3_
    have BK397 := n4_
    have BK416 := n5_
    have HB := n6_
    clear n0_ n1_ n2_ n3_ n4_ n5_ n6_
    (try clear hb)
    (try clear hb2)
    (try clear hk)
    (try clear hi)
    (try clear ho0)
    (try clear hna_)
    (try clear hnb_)
    obtain ⟨Ao57, co57, eo57⟩ := Kd.R_slice HO428.out
    (first | subst eo57 | (injection eo57 with f1_ f2_ f3_; have f4_ := f1_.symm; have f5_ := f3_.symm; clear f1_ f2_ f3_; subst f4_; subst f5_))
    refine hK.out _ _ ⟨(blk_cell BK416.out 0).trans rfl, (blk_cell BK416.out 1).trans rfl, (blk_cell BK416.out 2).trans rfl, (blk_cell BK396.out 0).trans rfl, (blk_cell BK396.out 1).trans rfl, (blk_cell BK396.out 2).trans rfl⟩ (fun hHeld => ?_)
    clear hK K
    refine norm_ (a' := ?_) ?_ ?_
    rotate_left
    ·show Act.put _ (some 54) _ = _
     simp only [Act.put, List.setIfInBounds_toArray, List.set_cons_zero, List.set_cons_succ, i64_w, i32_w]
     rfl
    refine one_ (i := 3) (N := some 55) (bq 5 15) rfl rfl (by kernel_rfl) (by decide) (fun K hK => ?_)
    refine goes_ Try.func13 (by kernel_rfl) rfl #[.agg #[.int .i64 t411, .int .i64 t412, .slice Ao41 t413.length co41], .agg #[.int .i64 t424, .int .i64 t425, .slice Ao57 t426.length co57]] (by rfl) rfl rfl zw4 ?_
    with_reducible refine (laws_eqBoard.calls kj21 t411 t412 _ _ t413 t424 t425 _ _ t426 true _ ?side1 ?side2 ?side3 ?side4 A50.out).mono ?_
    (case side1 => exact zw19)
    (case side2 => exact (Kd.R_reads' HO_417002.out).2.1)
    (case side3 => exact zw20)
    (case side4 => exact (Kd.R_reads' HO428.out).2.1)
    rintro e w58 ⟨rfl, hb⟩
    refine ⟨_, rfl, ?_⟩
    have n0_ := Aside0.mk (Kd.R_below zw9 hb)
    have n1_ := Aside0.mk (Kd.R_below zw7 hb)
    have n2_ := Aside0.mk (Kd.R_below zw13 hb)
    have n3_ := Aside0.mk (blk_below (g := gb396) (o := .cells #[.int .i64 a0_0, .int .i64 a0_1, .slice A0_2 l0_2.length c0_2] 24 (0, 0)) zw2 hb)
    have n4_ := Aside0.mk (blk_below (g := gb397) (o := .cells #[.int .i64 a1_0, .int .i64 a1_1] 26 (0, 0)) zw5 hb)
    have n5_ := Aside0.mk (blk_below (g := gb416) (o := .cells #[.int .i64 t411, .int .i64 t412, .slice Ao41 t413.length co41] 31 (0, 0)) zw8 hb)
    have n6_ := Aside0.mk (below_step zw1 hb)
    clear HO_11
    clear HO_417002
    clear HO428
    clear BK396
    clear BK397
    clear BK416
    clear HB
    have HO_11 := n0_
    have HO_417002 := n1_
    have HO428 := n2_
    have BK396 := n3_
    have BK397 := n4_
    have BK416 := n5_
    have HB := n6_
    clear n0_ n1_ n2_ n3_ n4_ n5_ n6_
    (try clear hb)
    (try clear hb2)
    (try clear hk)
    (try clear hi)
    (try clear hna_)
    (try clear hnb_)
    refine hK.out _ _ ⟨(blk_cell BK416.out 0).trans rfl, (blk_cell BK416.out 1).trans rfl, (blk_cell BK416.out 2).trans rfl, (blk_cell BK396.out 0).trans rfl, (blk_cell BK396.out 1).trans rfl, (blk_cell BK396.out 2).trans rfl⟩ (fun hHeld => ?_)
    clear hK K
    refine norm_ (a' := ?_) ?_ ?_
    rotate_left
    ·show Act.put _ (some 55) _ = _
     simp only [Act.put, List.setIfInBounds_toArray, List.set_cons_zero, List.set_cons_succ, i64_w, i32_w]
     rfl
    refine pure_ (i := 4) (N := some 56) (v := ?_) (a' := ?_) (bq 5 31) rfl rfl (by kernel_rfl) (fun _ _ _ h => h) (Or.inl ⟨by rfl, ?_⟩) ?_ ?_
    rotate_left
    ·intro w'
     go_simp
     with_reducible rfl
    rotate_left
    ·simp only [Act.put, List.setIfInBounds_toArray, List.set_cons_zero, List.set_cons_succ, i64_w, i32_w]
     rfl
    refine done_ (by kernel_rfl) ?_
    try go_wp2_with (first | ((with_reducible refine gate_callee (f := 18) rfl ?_); refine goesL_ (some 59) rfl rfl Try.func18 (by kernel_rfl) rfl #[.slice A2 l2.length c2] rfl zw4 ?_; (with_reducible refine (laws_toIntS.calls kj21 _ _ l2 t430 _ ?side1 ?side2 A52.out).mono ?_); (case side1 => exact zw21); (case side2 => exact HC2.out); rintro e w59 ⟨v431, rfl, ho0, hb⟩; refine ⟨_, rfl, ?_⟩; have n0_ := Aside0.mk (Kd.R_elder' zw9 (Kd.R_base ho0) hb); have n1_ := Aside0.mk (Kd.R_elder' zw7 (Kd.R_base ho0) hb); have n2_ := Aside0.mk (Kd.R_elder' zw13 (Kd.R_base ho0) hb); have n3_ := Aside0.mk (Kd.R_lower (Kd.R_new' (Kd.R_new' (Kd.R_new' ho0 (Kd.R_lt zw9)) (Kd.R_lt zw7)) (Kd.R_lt zw13)) (below_size zw1)); have n4_ := Aside0.mk (blk_below (g := gb396) (o := .cells #[.int .i64 a0_0, .int .i64 a0_1, .slice A0_2 l0_2.length c0_2] 24 (0, 0)) zw2 hb); have n5_ := Aside0.mk (blk_below (g := gb397) (o := .cells #[.int .i64 a1_0, .int .i64 a1_1] 26 (0, 0)) zw5 hb); have n6_ := Aside0.mk (blk_below (g := gb416) (o := .cells #[.int .i64 t411, .int .i64 t412, .slice Ao41 t413.length co41] 31 (0, 0)) zw8 hb); have n7_ := Aside0.mk (below_step zw1 hb); clear HO_11; clear HO_417002; clear HO428; clear BK396; clear BK397; clear BK416; clear HB; have HO_11 := n0_; have HO_417002 := n1_; have HO428 := n2_; have HO432 := n3_; have BK396 := n4_; have BK397 := n5_; have BK416 := n6_; have HB := n7_; clear n0_ n1_ n2_ n3_ n4_ n5_ n6_ n7_; (try clear hb); (try clear hb2); (try clear hk); (try clear hi); (try clear ho0); (try clear hna_); (try clear hnb_); obtain ⟨Ao60, co60, eo60⟩ := Kd.R_slice HO432.out; subst eo60) | ((with_reducible refine gate_callee (f := 20) rfl ?_); refine goesL_ (some 60) rfl rfl Try.func20 (by kernel_rfl) rfl #[.slice Ao45 t417.length co45, .slice Ao60 t430.length co60] rfl zw4 ?_; (with_reducible refine (laws_eqIntS.calls kj21 _ _ t417 _ _ t430 true _ ?side1 ?side2 ?side3 ?side4 A53.out).mono ?_); (case side1 => exact zw23); (case side2 => exact (Kd.R_reads' HO_11.out).2.1); (case side3 => exact zw24); (case side4 => exact (Kd.R_reads' HO432.out).2.1); rintro e w' ⟨rfl, ⟨nd, rfl⟩⟩; refine ⟨_, rfl, ?_⟩))
    go_ret
    exact ⟨zw15, zw1⟩
   replace c54 := Bool.eq_false_iff.mpr c54
   subst c54
   have H1 : (some false) = some r := by rw [if_neg (show ¬ (false = true) by decide)] at H; exact H
   clear H
   have H := H1
   clear H1
   obtain rfl := Option.some.inj H
   try go_wp2
   have n0_ := Aside0.mk (Kd.R_drew HO_11.out)
   have n1_ := Aside0.mk (Kd.R_drew HO_417002.out)
   have n2_ := Aside0.mk (blk_drew BK396.out)
   have n3_ := Aside0.mk (blk_drew BK397.out)
   have n4_ := Aside0.mk (blk_drew BK416.out)
   have n5_ := Aside0.mk (below_drew1 HB.out)
   clear HO_11
   clear HO_417002
   clear BK396
   clear BK397
   clear BK416
   clear HB
   have HO_11 := n0_
   have HO_417002 := n1_
   have BK396 := n2_
   have BK397 := n3_
   have BK416 := n4_
   have HB := n5_
   clear n0_ n1_ n2_ n3_ n4_ n5_
   refine start_ (n := 5) (S := fun w' => w'.cell? ⟨gb416, 0, none⟩ = some (.int .i64 t411) ∧ w'.cell? ⟨gb416, 1, none⟩ = some (.int .i64 t412) ∧ w'.cell? ⟨gb416, 2, none⟩ = some (.slice Ao41 t413.length co41) ∧ w'.cell? ⟨gb396, 0, none⟩ = some (.int .i64 a0_0) ∧ w'.cell? ⟨gb396, 1, none⟩ = some (.int .i64 a0_1) ∧ w'.cell? ⟨gb396, 2, none⟩ = some (.slice A0_2 l0_2.length c0_2)) (ds := []) #[false, false, false, false, false] (by kernel_rfl) rfl rfl ⟨(blk_cell BK416.out 0).trans rfl, (blk_cell BK416.out 1).trans rfl, (blk_cell BK416.out 2).trans rfl, (blk_cell BK396.out 0).trans rfl, (blk_cell BK396.out 1).trans rfl, (blk_cell BK396.out 2).trans rfl⟩ (fun hHeld => ?_)
   generalize wc.drew = w61 at HO_11 HO_417002 BK396 BK397 BK416 HB hHeld ⊢
   refine take_ (i := 0) (N := some 52) (v := ?_) (a' := ?_) (bq 5 1) rfl rfl (by kernel_rfl) (fun _ _ _ h => h) (Or.inl ⟨by rfl, ?_⟩) hHeld ?_ ?_
   rotate_left
   ·rintro w' ⟨s0, s1, s2, s3, s4, s5⟩
    go_simp
    with_reducible rfl
   rotate_left
   ·simp only [Act.put, List.setIfInBounds_toArray, List.set_cons_zero, List.set_cons_succ, i64_w, i32_w]
    rfl
   refine take_ (i := 1) (N := some 53) (v := ?_) (a' := ?_) (bq 5 3) rfl rfl (by kernel_rfl) (fun _ _ _ h => h) (Or.inl ⟨by rfl, ?_⟩) hHeld ?_ ?_
   rotate_left
   ·rintro w' ⟨s0, s1, s2, s3, s4, s5⟩
    go_simp
    with_reducible rfl
   rotate_left
   ·simp only [Act.put, List.setIfInBounds_toArray, List.set_cons_zero, List.set_cons_succ, i64_w, i32_w]
    rfl
   refine one_ (i := 2) (N := some 54) (bq 5 7) rfl rfl (by kernel_rfl) (by decide) (fun K hK => ?_)
   refine goes_ Try.func9 (by kernel_rfl) rfl #[.agg #[.int .i64 a0_0, .int .i64 a0_1, .slice A0_2 l0_2.length c0_2]] (by rfl) rfl rfl zw4 ?_
   with_reducible refine (laws_toBoard.calls kj21 a0_0 a0_1 _ _ l0_2 t424 t425 t426 _ ?side1 ?side2 A49.out).mono ?_
   (case side1 => exact zw11)
   (case side2 => exact HC0_2.out)
   rintro e w62 ⟨v427, rfl, ho0, hb⟩
   refine ⟨_, rfl, ?_⟩
   have n0_ := Aside0.mk (Kd.R_elder' zw9 (Kd.R_base ho0) hb)
   have n1_ := Aside0.mk (Kd.R_elder' zw7 (Kd.R_base ho0) hb)
   have n2_ := Aside0.mk (Kd.R_lower (Kd.R_new' (Kd.R_new' ho0 (Kd.R_lt zw9)) (Kd.R_lt zw7)) (below_size zw1))
   have n3_ := Aside0.mk (blk_below (g := gb396) (o := .cells #[.int .i64 a0_0, .int .i64 a0_1, .slice A0_2 l0_2.length c0_2] 24 (0, 0)) zw2 hb)
   have n4_ := Aside0.mk (blk_below (g := gb397) (o := .cells #[.int .i64 a1_0, .int .i64 a1_1] 26 (0, 0)) zw5 hb)
   have n5_ := Aside0.mk (blk_below (g := gb416) (o := .cells #[.int .i64 t411, .int .i64 t412, .slice Ao41 t413.length co41] 31 (0, 0)) zw8 hb)
   have n6_ := Aside0.mk (below_step zw1 hb)
   clear HO_11
   clear HO_417002
   clear BK396
   clear BK397
   clear BK416
   clear HB
   have HO_11 := n0_
   have HO_417002 := n1_
   have HO428 := n2_
   have BK396 := n3_
   have BK397 := n4_
   have BK416 := n5_
   have HB := n6_
   clear n0_ n1_ n2_ n3_ n4_ n5_ n6_
   (try clear hb)
   (try clear hb2)
   (try clear hk)
   (try clear hi)
   (try clear ho0)
   (try clear hna_)
   (try clear hnb_)
   obtain ⟨Ao63, co63, eo63⟩ := Kd.R_slice HO428.out
   (first | subst eo63 | (injection eo63 with f1_ f2_ f3_; have f4_ := f1_.symm; have f5_ := f3_.symm; clear f1_ f2_ f3_; subst f4_; subst f5_))
   refine hK.out _ _ ⟨(blk_cell BK416.out 0).trans rfl, (blk_cell BK416.out 1).trans rfl, (blk_cell BK416.out 2).trans rfl, (blk_cell BK396.out 0).trans rfl, (blk_cell BK396.out 1).trans rfl, (blk_cell BK396.out 2).trans rfl⟩ (fun hHeld => ?_)
   clear hK K
   refine norm_ (a' := ?_) ?_ ?_
   rotate_left
   ·show Act.put _ (some 54) _ = _
    simp only [Act.put, List.setIfInBounds_toArray, List.set_cons_zero, List.set_cons_succ, i64_w, i32_w]
    rfl
   refine one_ (i := 3) (N := some 55) (bq 5 15) rfl rfl (by kernel_rfl) (by decide) (fun K hK => ?_)
   refine goes_ Try.func13 (by kernel_rfl) rfl #[.agg #[.int .i64 t411, .int .i64 t412, .slice Ao41 t413.length co41], .agg #[.int .i64 t424, .int .i64 t425, .slice Ao63 t426.length co63]] (by rfl) rfl rfl zw4 ?_
   with_reducible refine (laws_eqBoard.calls kj21 t411 t412 _ _ t413 t424 t425 _ _ t426 true _ ?side1 ?side2 ?side3 ?side4 A50.out).mono ?_
   (case side1 => exact zw19)
   (case side2 => exact (Kd.R_reads' HO_417002.out).2.1)
   (case side3 => exact zw20)
   (case side4 => exact (Kd.R_reads' HO428.out).2.1)
   rintro e w64 ⟨rfl, hb⟩
   refine ⟨_, rfl, ?_⟩
   have n0_ := Aside0.mk (Kd.R_below zw9 hb)
   have n1_ := Aside0.mk (Kd.R_below zw7 hb)
   have n2_ := Aside0.mk (Kd.R_below zw13 hb)
   have n3_ := Aside0.mk (blk_below (g := gb396) (o := .cells #[.int .i64 a0_0, .int .i64 a0_1, .slice A0_2 l0_2.length c0_2] 24 (0, 0)) zw2 hb)
   have n4_ := Aside0.mk (blk_below (g := gb397) (o := .cells #[.int .i64 a1_0, .int .i64 a1_1] 26 (0, 0)) zw5 hb)
   have n5_ := Aside0.mk (blk_below (g := gb416) (o := .cells #[.int .i64 t411, .int .i64 t412, .slice Ao41 t413.length co41] 31 (0, 0)) zw8 hb)
   have n6_ := Aside0.mk (below_step zw1 hb)
   clear HO_11
   clear HO_417002
   clear HO428
   clear BK396
   clear BK397
   clear BK416
   clear HB
   have HO_11 := n0_
   have HO_417002 := n1_
   have HO428 := n2_
   have BK396 := n3_
   have BK397 := n4_
   have BK416 := n5_
   have HB := n6_
   clear n0_ n1_ n2_ n3_ n4_ n5_ n6_
   (try clear hb)
   (try clear hb2)
   (try clear hk)
   (try clear hi)
   (try clear hna_)
   (try clear hnb_)
   refine hK.out _ _ ⟨(blk_cell BK416.out 0).trans rfl, (blk_cell BK416.out 1).trans rfl, (blk_cell BK416.out 2).trans rfl, (blk_cell BK396.out 0).trans rfl, (blk_cell BK396.out 1).trans rfl, (blk_cell BK396.out 2).trans rfl⟩ (fun hHeld => ?_)
   clear hK K
   refine norm_ (a' := ?_) ?_ ?_
   rotate_left
   ·show Act.put _ (some 55) _ = _
    simp only [Act.put, List.setIfInBounds_toArray, List.set_cons_zero, List.set_cons_succ, i64_w, i32_w]
    rfl
   refine pure_ (i := 4) (N := some 56) (v := ?_) (a' := ?_) (bq 5 31) rfl rfl (by kernel_rfl) (fun _ _ _ h => h) (Or.inl ⟨by rfl, ?_⟩) ?_ ?_
   rotate_left
   ·intro w'
    go_simp
    with_reducible rfl
   rotate_left
   ·simp only [Act.put, List.setIfInBounds_toArray, List.set_cons_zero, List.set_cons_succ, i64_w, i32_w]
    rfl
   refine done_ (by kernel_rfl) ?_
   try go_wp2_with (first | ((with_reducible refine gate_callee (f := 18) rfl ?_); refine goesL_ (some 59) rfl rfl Try.func18 (by kernel_rfl) rfl #[.slice A2 l2.length c2] rfl zw4 ?_; (with_reducible refine (laws_toIntS.calls kj21 _ _ l2 t430 _ ?side1 ?side2 A52.out).mono ?_); (case side1 => exact zw21); (case side2 => exact HC2.out); rintro e w65 ⟨v431, rfl, ho0, hb⟩; refine ⟨_, rfl, ?_⟩; have n0_ := Aside0.mk (Kd.R_elder' zw9 (Kd.R_base ho0) hb); have n1_ := Aside0.mk (Kd.R_elder' zw7 (Kd.R_base ho0) hb); have n2_ := Aside0.mk (Kd.R_elder' zw13 (Kd.R_base ho0) hb); have n3_ := Aside0.mk (Kd.R_lower (Kd.R_new' (Kd.R_new' (Kd.R_new' ho0 (Kd.R_lt zw9)) (Kd.R_lt zw7)) (Kd.R_lt zw13)) (below_size zw1)); have n4_ := Aside0.mk (blk_below (g := gb396) (o := .cells #[.int .i64 a0_0, .int .i64 a0_1, .slice A0_2 l0_2.length c0_2] 24 (0, 0)) zw2 hb); have n5_ := Aside0.mk (blk_below (g := gb397) (o := .cells #[.int .i64 a1_0, .int .i64 a1_1] 26 (0, 0)) zw5 hb); have n6_ := Aside0.mk (blk_below (g := gb416) (o := .cells #[.int .i64 t411, .int .i64 t412, .slice Ao41 t413.length co41] 31 (0, 0)) zw8 hb); have n7_ := Aside0.mk (below_step zw1 hb); clear HO_11; clear HO_417002; clear HO428; clear BK396; clear BK397; clear BK416; clear HB; have HO_11 := n0_; have HO_417002 := n1_; have HO428 := n2_; have HO432 := n3_; have BK396 := n4_; have BK397 := n5_; have BK416 := n6_; have HB := n7_; clear n0_ n1_ n2_ n3_ n4_ n5_ n6_ n7_; (try clear hb); (try clear hb2); (try clear hk); (try clear hi); (try clear ho0); (try clear hna_); (try clear hnb_); obtain ⟨Ao66, co66, eo66⟩ := Kd.R_slice HO432.out; subst eo66) | ((with_reducible refine gate_callee (f := 20) rfl ?_); refine goesL_ (some 60) rfl rfl Try.func20 (by kernel_rfl) rfl #[.slice Ao45 t417.length co45, .slice Ao66 t430.length co66] rfl zw4 ?_; (with_reducible refine (laws_eqIntS.calls kj21 _ _ t417 _ _ t430 false _ ?side1 ?side2 ?side3 ?side4 A53.out).mono ?_); (case side1 => exact zw23); (case side2 => exact (Kd.R_reads' HO_11.out).2.1); (case side3 => exact zw24); (case side4 => exact (Kd.R_reads' HO432.out).2.1); rintro e w' ⟨rfl, ⟨nd, rfl⟩⟩; refine ⟨_, rfl, ?_⟩))
   go_ret
   exact ⟨zw15, zw1⟩

end Go.Proofs.Ytemaokhlolimhaa.Q

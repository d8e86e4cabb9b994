/- Written by a program of this session: functions of the translation as plain Lean functions, each with a proof that the call does what the plain function says; the conditions stand in each theorem. -/
import Derived.Test.YthoklbeenjppbaaQ0
import Derived.Test.YthoklbeenjppbaaQ1
import Derived.Test.YthoklbeenjppbaaQ2
import Derived.Test.YthoklbeenjppbaaQ5
import Derived.Test.YthoklbeenjppbaaQ24
import Derived.Test.YthoklbeenjppbaaQ26
namespace Go.Proofs.Ythoklbeenjppbaa.Q
open Go.RowKit Go.Proofs.YthoklbeenjppbaaW.PrintWords Go.Proofs.YthoklbeenjppbaaW.PrintLast Go.Proofs.YthoklbeenjppbaaW.PrintMore
attribute [local go_sem] max2_int min2_int max_two min_two max_three min_three max_four min_four   -- for this text's walks alone
set_option linter.unusedVariables false
set_option linter.unusedSimpArgs false

theorem zab1 {p : Prop} (h : p := by repeat (first | (with_reducible first | exact HB.out | apply below_alloc | apply pw_below_drewN | apply below_drew1 | refine below_set ?_ GE585.out | refine below_set ?_ GE586.out | refine below_set ?_ GE607.out) | exact HB.out)) : p := h
theorem zab2 {p : Prop} (h : p := by (with_reducible repeat (first | refine blk_drewN ?_ _ | refine blk_drew ?_ | refine blk_alloc ?_ _)); exact BK585.out) : p := h
theorem zab4 {p : Prop} (h : p := by repeat (first | (with_reducible first | exact HB.out | apply below_alloc | apply pw_below_drewN | apply below_drew1 | refine below_set ?_ GE585.out | refine below_set ?_ GE586.out) | exact HB.out)) : p := h
theorem zab5 {p : Prop} (h : p := by (with_reducible repeat (first | refine blk_drewN ?_ _ | refine blk_drew ?_ | refine blk_alloc ?_ _)); exact BK586.out) : p := h
theorem zab6 {p : Prop} (h : p := by (try simp only [List.map_toArray, List.map_cons, List.map_nil]); first | done | rfl | (simp only [List.length_drop, List.length_take]; rfl)) : p := h
theorem zab7 {p : Prop} (h : p := by (with_reducible repeat (first | refine blk_drewN ?_ _ | refine blk_drew ?_ | refine blk_alloc ?_ _)); exact BK607.out) : p := h
theorem zab8 {p : Prop} (h : p := by repeat (first | (with_reducible first | exact HB.out | apply below_alloc | apply pw_below_drewN | apply below_drew1 | refine below_set ?_ GE585.out) | exact HB.out)) : p := h
theorem zab9 {p : Prop} (h : p := by (with_reducible repeat (first | apply Kd.R_alloc | apply Kd.R_drewN | apply Kd.R_drew)); exact HO_608002.out) : p := h
theorem zab10 {p : Prop} (h : p := by (with_reducible repeat (first | apply Kd.R_alloc | apply Kd.R_drewN | apply Kd.R_drew)); exact HO_13.out) : p := h
theorem zab11 {p : Prop} (h : p := by repeat (first | (with_reducible first | exact HB.out | apply below_alloc | apply pw_below_drewN | apply below_drew1) | exact HB.out)) : p := h
theorem zab12 {p : Prop} (h : p := by repeat (first | exact (Kd.C_below HR0_2.out HB.out) | (with_reducible refine Kd.C_alloc ?_ _) | (with_reducible refine Kd.C_drewN ?_ _) | (with_reducible refine Kd.C_drew ?_))) : p := h
theorem zab13 {p : Prop} (h : p := by (with_reducible repeat (first | apply Kd.R_alloc | apply Kd.R_drewN | apply Kd.R_drew)); exact HO592.out) : p := h
theorem zab14 {p : Prop} (h : p := by (with_reducible repeat (first | apply Kd.R_alloc | apply Kd.R_drewN | apply Kd.R_drew)); exact HO621.out) : p := h
theorem zab15 {p : Prop} (h : p := by (with_reducible repeat (first | apply Kd.R_alloc | apply Kd.R_drewN | apply Kd.R_drew)); exact HO597.out) : p := h
theorem zab16 {p : Prop} (h : p := by first | rfl | (simp [errW_none, errW_some] <;> rfl) | (simp [*, errW_none, errW_some] <;> rfl)) : p := h
theorem zab17 {p : Prop} (h : p := by (with_reducible repeat (first | apply Kd.R_alloc | apply Kd.R_drewN | apply Kd.R_drew)); exact (Kd.R_mono (Kd.R_far (p := ⟨gb607, 2, none⟩) (Kd.R_far (p := ⟨gb607, 1, none⟩) (Kd.R_far (p := ⟨gb607, 0, none⟩) (Kd.R_types HO606.out BK607.out (by decide)) (fun _ hk => hk.2) (.int .i64 t602)) (fun _ hk => hk.2) (.int .i64 t603)) (fun _ hk => hk.2) (.slice Ao41 t604.length co41)) (fun _ h_ => h_.1))) : p := h
theorem zab18 {p : Prop} (h : p := by (with_reducible repeat (first | apply Kd.R_alloc | apply Kd.R_drewN | apply Kd.R_drew)); exact (Kd.R_mono (Kd.R_far (p := ⟨gb607, 2, none⟩) (Kd.R_far (p := ⟨gb607, 1, none⟩) (Kd.R_far (p := ⟨gb607, 0, none⟩) (Kd.R_types HO597.out BK607.out (by decide)) (fun _ hk => hk.2) (.int .i64 t602)) (fun _ hk => hk.2) (.int .i64 t603)) (fun _ hk => hk.2) (.slice Ao41 t604.length co41)) (fun _ h_ => h_.1))) : p := h
theorem zab19 {p : Prop} (h : p := by (with_reducible repeat (first | apply Kd.R_alloc | apply Kd.R_drewN | apply Kd.R_drew)); exact (Kd.R_mono (Kd.R_far (p := ⟨gb607, 2, none⟩) (Kd.R_far (p := ⟨gb607, 1, none⟩) (Kd.R_far (p := ⟨gb607, 0, none⟩) (Kd.R_types HO592.out BK607.out (by decide)) (fun _ hk => hk.2) (.int .i64 t602)) (fun _ hk => hk.2) (.int .i64 t603)) (fun _ hk => hk.2) (.slice Ao41 t604.length co41)) (fun _ h_ => h_.1))) : p := h
theorem zab20 {p : Prop} (h : p := by (with_reducible repeat (first | apply Kd.R_alloc | apply Kd.R_drewN | apply Kd.R_drew)); exact Kd.R_mono HO610.out (fun _ hk => hk.2)) : p := h
theorem zab21 {p : Prop} (h : p := by (with_reducible repeat (first | apply Kd.R_alloc | apply Kd.R_drewN | apply Kd.R_drew)); exact Kd.R_mono HO606.out (fun _ hk => hk.2)) : p := h
theorem zab22 {p : Prop} (h : p := by repeat (first | exact (Kd.R_reads' HO_608002.out).2.2 | (with_reducible refine Kd.C_alloc ?_ _) | (with_reducible refine Kd.C_drewN ?_ _) | (with_reducible refine Kd.C_drew ?_))) : p := h
theorem zab23 {p : Prop} (h : p := by repeat (first | exact (Kd.R_reads' HO621.out).2.2 | (with_reducible refine Kd.C_alloc ?_ _) | (with_reducible refine Kd.C_drewN ?_ _) | (with_reducible refine Kd.C_drew ?_))) : p := h
theorem zab24 {p : Prop} (h : p := by repeat (first | exact (Kd.C_below HR2.out HB.out) | (with_reducible refine Kd.C_alloc ?_ _) | (with_reducible refine Kd.C_drewN ?_ _) | (with_reducible refine Kd.C_drew ?_))) : p := h
theorem zab25 {p : Prop} (h : p := by (with_reducible repeat (first | apply Kd.R_alloc | apply Kd.R_drewN | apply Kd.R_drew)); exact HO606.out) : p := h
theorem zab26 {p : Prop} (h : p := by repeat (first | exact (Kd.R_reads' HO_13.out).2.2 | (with_reducible refine Kd.C_alloc ?_ _) | (with_reducible refine Kd.C_drewN ?_ _) | (with_reducible refine Kd.C_drew ?_))) : p := h
theorem zab27 {p : Prop} (h : p := by repeat (first | exact (Kd.R_reads' HO625.out).2.2 | (with_reducible refine Kd.C_alloc ?_ _) | (with_reducible refine Kd.C_drewN ?_ _) | (with_reducible refine Kd.C_drew ?_))) : p := h
theorem zab28 {p : Prop} (h : p := by first | rfl | (simp; done) | (simp [*]; done)) : p := h
theorem zab29 {p : Prop} (h : p := by rw [hg]; exact Nat.ne_of_lt (blk_lt (g := gb585) (o := .cells #[.int .i64 a0_0, .int .i64 a0_1, .slice A0_2 l0_2.length c0_2] 24 (0, 0)) zab2)) : p := h
theorem zab30 {p : Prop} (h : p := by rw [hg]; exact Nat.ne_of_gt (blk_lt (g := gb585) (o := .cells #[.int .i64 a0_0, .int .i64 a0_1, .slice A0_2 l0_2.length c0_2] 24 (0, 0)) zab2)) : p := h
theorem zab31 {p : Prop} (h : p := by rw [hg]; exact (below_size zab11)) : p := h
theorem zab32 {p : Prop} (h : p := by rw [hg]; exact (below_size zab8)) : p := h
/-! ### laws_FnExactTurnsOfPath: function 6 -/
def laws_FnExactTurnsOfPath.j0 : Nat → List Int → List Int → Bool → Int → Int → List Int → Int → Int → List Int → Option (Bool)
 | 0, _, _, _, _, _, _, _, _, _ => none
 | k + 1, x2, x13, x69, x586000, x586001, x586002, x608000, x608001, x608002 => if x69 = true then (some false) else ((laws_toBoard.f k x586000 x586001 x586002).bind fun bt617 => ((laws_eqBoard.f k x608000 x608001 x608002 bt617.1 bt617.2.1 bt617.2.2).bind fun t622 => (if t622 = true then ((laws_toIntS.f k x2).bind fun t623 => ((laws_eqIntS.f k x13 t623).bind fun t626 => (if t626 = true then (some true) else (some false)))) else (some false))))
def laws_FnExactTurnsOfPath.f (k : Nat) (a0_0 : Int) (a0_1 : Int) (l0_2 : List Int) (a1_0 : Int) (a1_1 : Int) (l2 : List Int) : Option (Bool) := if (l2.length : Int) > 1048576 then (some true) else ((laws_szBoard.f a0_0 a0_1 l0_2 1048576).bind fun t587 => (if t587 < 0 then (some true) else ((laws_toBoard.f k a0_0 a0_1 l0_2).bind fun bt588 => ((laws_toLeaper.f a1_0 a1_1).bind fun bt593 => ((laws_toIntS.f k l2).bind fun t595 => ((spec_TurnsOfPath.f k bt588.1 bt588.2.1 bt588.2.2 bt593.1 bt593.2 t595).bind fun bt598 => ((laws_toBoard.f k a0_0 a0_1 l0_2).bind fun bt602 => ((laws_toIntS.f k l2).bind fun t608 => ((laws_toLeaper.f a1_0 a1_1).bind fun bt611 => ((impl_TurnsOfPath.f k bt602.1 bt602.2.1 bt602.2.2 bt611.1 bt611.2 t608).bind fun bt613 => (if bt613.1 = bt598.1 then (if bt613.2.1 = bt598.2.1 then (if bt613.2.2.1 = bt598.2.2.1 then (laws_FnExactTurnsOfPath.j0 k l2 t608 (bt613.2.2.2 != bt598.2.2.2) a0_0 a0_1 l0_2 bt602.1 bt602.2.1 bt602.2.2) else (laws_FnExactTurnsOfPath.j0 k l2 t608 true a0_0 a0_1 l0_2 bt602.1 bt602.2.1 bt602.2.2)) else (laws_FnExactTurnsOfPath.j0 k l2 t608 true a0_0 a0_1 l0_2 bt602.1 bt602.2.1 bt602.2.2)) else (laws_FnExactTurnsOfPath.j0 k l2 t608 true a0_0 a0_1 l0_2 bt602.1 bt602.2.1 bt602.2.2))))))))))))
def laws_FnExactTurnsOfPath.T7 : Bool × List (List Nat × List Nat) := (true, [([], []), ([0], [0]), ([], []), ([2, 1], [2]), ([], []), ([4, 3], [4]), ([1, 3, 5, 5], [1, 3, 5]), ([6], [6]), ([7], [7]), ([7], [7]), ([7], [7]), ([7], [7]), ([8, 6, 0, 1, 2, 3, 4, 5, 6, 7, 8], [8]), ([9, 12, 0, 1, 2, 3, 4, 5, 6, 7, 8, 9, 12], [9]), ([10, 13, 0, 1, 2, 3, 4, 5, 6, 7, 8, 9, 10, 12, 13], [10]), ([11, 14, 0, 1, 2, 3, 4, 5, 6, 7, 8, 9, 10, 11, 12, 13, 14], [11])])
def laws_FnExactTurnsOfPath.B7 : List Nat := [0, 1, 0, 7, 0, 31, 63, 127, 255, 255, 255, 255, 511, 5119, 14335, 32767]
theorem laws_FnExactTurnsOfPath.tab7 : rtab .any (opsOf Try.f6 7) = laws_FnExactTurnsOfPath.T7 := by kernel_rfl
theorem laws_FnExactTurnsOfPath.bits7 : waitsOk laws_FnExactTurnsOfPath.T7.2 laws_FnExactTurnsOfPath.B7 = true := by kernel_rfl
def laws_FnExactTurnsOfPath.T10 : Bool × List (List Nat × List Nat) := (true, [([], []), ([], []), ([1], [1]), ([], []), ([0, 2, 3, 2], [0, 2, 3]), ([4], [4]), ([5], [5]), ([5], [5]), ([5], [5]), ([5], [5]), ([6, 4, 0, 1, 2, 3, 4, 5, 6], [6]), ([7, 10, 0, 1, 2, 3, 4, 5, 6, 7, 10], [7]), ([8, 11, 0, 1, 2, 3, 4, 5, 6, 7, 8, 10, 11], [8]), ([9, 12, 0, 1, 2, 3, 4, 5, 6, 7, 8, 9, 10, 11, 12], [9])])
def laws_FnExactTurnsOfPath.B10 : List Nat := [0, 0, 2, 0, 15, 31, 63, 63, 63, 63, 127, 1279, 3583, 8191]
theorem laws_FnExactTurnsOfPath.tab10 : rtab .any (opsOf Try.f6 10) = laws_FnExactTurnsOfPath.T10 := by kernel_rfl
theorem laws_FnExactTurnsOfPath.bits10 : waitsOk laws_FnExactTurnsOfPath.T10.2 laws_FnExactTurnsOfPath.B10 = true := by kernel_rfl
set_option maxHeartbeats 8000000 in
set_option maxRecDepth 100000 in
theorem laws_FnExactTurnsOfPath.calls (k : Nat) (a0_0 : Int) (a0_1 : Int) (A0_2 : Option Addr) (c0_2 : Nat) (l0_2 : List Int) (a1_0 : Int) (a1_1 : Int) (A2 : Option Addr) (c2 : Nat) (l2 : List Int) (r : Bool) (w : World) (hr0_2 : Kd.C (Kd.int .i64) w A0_2 l0_2.length l0_2) (hc0_2 : l0_2.length ≤ c0_2) (hr2 : Kd.C (Kd.int .i64) w A2 l2.length l2) (hc2 : l2.length ≤ c2) (h : laws_FnExactTurnsOfPath.f k a0_0 a0_1 l0_2 a1_0 a1_1 l2 = some r) :
  Calls Try.prog 6 #[.agg #[.int .i64 a0_0, .int .i64 a0_1, .slice A0_2 l0_2.length c0_2], .agg #[.int .i64 a1_0, .int .i64 a1_1], .slice A2 l2.length c2] w fun e w' => e = .returned (.bool r) ∧ Below w.heap.size w w' := by
 have hu24 := Try.underlying24
 have hu26 := Try.underlying26
 have hu30 := Try.underlying30
 have HR0_2 := Aside0.mk hr0_2
 have HC0_2 := Aside0.mk hc0_2
 clear hr0_2 hc0_2
 have HR2 := Aside0.mk hr2
 have HC2 := Aside0.mk hc2
 clear hr2 hc2
 have HB := Aside0.mk (Below.refl w.heap.size w)
 have H : (if (l2.length : Int) > 1048576 then (some true) else ((laws_szBoard.f a0_0 a0_1 l0_2 1048576).bind fun t587 => (if t587 < 0 then (some true) else ((laws_toBoard.f k a0_0 a0_1 l0_2).bind fun bt588 => ((laws_toLeaper.f a1_0 a1_1).bind fun bt593 => ((laws_toIntS.f k l2).bind fun t595 => ((spec_TurnsOfPath.f k bt588.1 bt588.2.1 bt588.2.2 bt593.1 bt593.2 t595).bind fun bt598 => ((laws_toBoard.f k a0_0 a0_1 l0_2).bind fun bt602 => ((laws_toIntS.f k l2).bind fun t608 => ((laws_toLeaper.f a1_0 a1_1).bind fun bt611 => ((impl_TurnsOfPath.f k bt602.1 bt602.2.1 bt602.2.2 bt611.1 bt611.2 t608).bind fun bt613 => (if bt613.1 = bt598.1 then (if bt613.2.1 = bt598.2.1 then (if bt613.2.2.1 = bt598.2.2.1 then (laws_FnExactTurnsOfPath.j0 k l2 t608 (bt613.2.2.2 != bt598.2.2.2) a0_0 a0_1 l0_2 bt602.1 bt602.2.1 bt602.2.2) else (laws_FnExactTurnsOfPath.j0 k l2 t608 true a0_0 a0_1 l0_2 bt602.1 bt602.2.1 bt602.2.2)) else (laws_FnExactTurnsOfPath.j0 k l2 t608 true a0_0 a0_1 l0_2 bt602.1 bt602.2.1 bt602.2.2)) else (laws_FnExactTurnsOfPath.j0 k l2 t608 true a0_0 a0_1 l0_2 bt602.1 bt602.2.1 bt602.2.2))))))))))))) = some r := h
 clear h
 by_cases c4 : (l2.length : Int) > 1048576
 ·rw [if_pos c4] at H
  have c4b0 : decide (1048576 < (l2.length : Int)) = true := decide_eq_true c4
  have c4b1 : decide (1048576 < l2.length) = true := decide_eq_true (by omega)
  clear c4
  obtain rfl := Option.some.inj H
  go_enter Try.func6, Try.ntmps6
  go_wp2_with (first | ((with_reducible refine gate_dst (N := 3) rfl ?_); refine box_event ?hg (N := 3) ?hd (cs := #[.int .i64 a0_0, .int .i64 a0_1, .slice A0_2 l0_2.length c0_2]) (t := 24) ?hr ?_; (case hd => rfl); (case hg => rfl); (case hr => first | (go_simp; done) | (go_simp; rfl)); intro gb585 hg w5 hbox hb; have n0_ := Aside0.mk (below_step zab11 hb); have n1_ := Aside0.mk (hbox); have n2_ := Aside0.mk ((zab31 : w.heap.size ≤ gb585)); have n3_ := Aside0.mk ((zab31 : w.heap.size ≤ gb585)); clear HB; have HB := n0_; have BK585 := n1_; have GW585 := n2_; have GE585 := n3_; clear n0_ n1_ n2_ n3_; clear hb hbox hg) | ((with_reducible refine gate_dst (N := 4) rfl ?_); refine box_event ?hg (N := 4) ?hd (cs := #[.int .i64 a1_0, .int .i64 a1_1]) (t := 26) ?hr ?_; (case hd => rfl); (case hg => rfl); (case hr => first | (go_simp; done) | (go_simp; rfl)); intro gb586 hg w6 hbox hb; have n0_ := Aside0.mk (blk_below (g := gb585) (o := .cells #[.int .i64 a0_0, .int .i64 a0_1, .slice A0_2 l0_2.length c0_2] 24 (0, 0)) zab2 hb); have n1_ := Aside0.mk (below_step zab8 hb); have n2_ := Aside0.mk (hbox); have n3_ := Aside0.mk ((zab32 : w.heap.size ≤ gb586)); have n4_ := Aside0.mk ((zab32 : w.heap.size ≤ gb586)); have n5_ := Aside0.mk ((zab29 : gb585 ≠ gb586)); have n6_ := Aside0.mk ((zab30 : gb586 ≠ gb585)); clear BK585; clear HB; have BK585 := n0_; have HB := n1_; have BK586 := n2_; have GW586 := n3_; have GE586 := n4_; have NB585_586 := n5_; have NB586_585 := n6_; clear n0_ n1_ n2_ n3_ n4_ n5_ n6_; clear hb hbox hg))
  go_ret
  exact ⟨zab16, zab4⟩
 rw [if_neg c4] at H
 have c4b0 : decide (1048576 < (l2.length : Int)) = false := decide_eq_false c4
 have c4b1 : decide (1048576 < l2.length) = false := decide_eq_false (by omega)
 clear c4
 replace H := Option.bind_eq_some_iff.mp H
 obtain ⟨t587, A70, H⟩ := H
 replace H : (if t587 < 0 then (some true) else ((laws_toBoard.f k a0_0 a0_1 l0_2).bind fun bt588 => ((laws_toLeaper.f a1_0 a1_1).bind fun bt593 => ((laws_toIntS.f k l2).bind fun t595 => ((spec_TurnsOfPath.f k bt588.1 bt588.2.1 bt588.2.2 bt593.1 bt593.2 t595).bind fun bt598 => ((laws_toBoard.f k a0_0 a0_1 l0_2).bind fun bt602 => ((laws_toIntS.f k l2).bind fun t608 => ((laws_toLeaper.f a1_0 a1_1).bind fun bt611 => ((impl_TurnsOfPath.f k bt602.1 bt602.2.1 bt602.2.2 bt611.1 bt611.2 t608).bind fun bt613 => (if bt613.1 = bt598.1 then (if bt613.2.1 = bt598.2.1 then (if bt613.2.2.1 = bt598.2.2.1 then (laws_FnExactTurnsOfPath.j0 k l2 t608 (bt613.2.2.2 != bt598.2.2.2) a0_0 a0_1 l0_2 bt602.1 bt602.2.1 bt602.2.2) else (laws_FnExactTurnsOfPath.j0 k l2 t608 true a0_0 a0_1 l0_2 bt602.1 bt602.2.1 bt602.2.2)) else (laws_FnExactTurnsOfPath.j0 k l2 t608 true a0_0 a0_1 l0_2 bt602.1 bt602.2.1 bt602.2.2)) else (laws_FnExactTurnsOfPath.j0 k l2 t608 true a0_0 a0_1 l0_2 bt602.1 bt602.2.1 bt602.2.2))))))))))) = some r := H
 have A7 := Aside0.mk A70
 clear A70
 by_cases c8 : t587 < 0
 ·rw [if_pos c8] at H
  have c8b0 : decide (t587 < 0) = true := decide_eq_true c8
  clear c8
  obtain rfl := Option.some.inj H
  go_enter Try.func6, Try.ntmps6
  go_wp2_with (first | ((with_reducible refine gate_dst (N := 3) rfl ?_); refine box_event ?hg (N := 3) ?hd (cs := #[.int .i64 a0_0, .int .i64 a0_1, .slice A0_2 l0_2.length c0_2]) (t := 24) ?hr ?_; (case hd => rfl); (case hg => rfl); (case hr => first | (go_simp; done) | (go_simp; rfl)); intro gb585 hg w9 hbox hb; have n0_ := Aside0.mk (below_step zab11 hb); have n1_ := Aside0.mk (hbox); have n2_ := Aside0.mk ((zab31 : w.heap.size ≤ gb585)); have n3_ := Aside0.mk ((zab31 : w.heap.size ≤ gb585)); clear HB; have HB := n0_; have BK585 := n1_; have GW585 := n2_; have GE585 := n3_; clear n0_ n1_ n2_ n3_; clear hb hbox hg) | ((with_reducible refine gate_dst (N := 4) rfl ?_); refine box_event ?hg (N := 4) ?hd (cs := #[.int .i64 a1_0, .int .i64 a1_1]) (t := 26) ?hr ?_; (case hd => rfl); (case hg => rfl); (case hr => first | (go_simp; done) | (go_simp; rfl)); intro gb586 hg w10 hbox hb; have n0_ := Aside0.mk (blk_below (g := gb585) (o := .cells #[.int .i64 a0_0, .int .i64 a0_1, .slice A0_2 l0_2.length c0_2] 24 (0, 0)) zab2 hb); have n1_ := Aside0.mk (below_step zab8 hb); have n2_ := Aside0.mk (hbox); have n3_ := Aside0.mk ((zab32 : w.heap.size ≤ gb586)); have n4_ := Aside0.mk ((zab32 : w.heap.size ≤ gb586)); have n5_ := Aside0.mk ((zab29 : gb585 ≠ gb586)); have n6_ := Aside0.mk ((zab30 : gb586 ≠ gb585)); clear BK585; clear HB; have BK585 := n0_; have HB := n1_; have BK586 := n2_; have GW586 := n3_; have GE586 := n4_; have NB585_586 := n5_; have NB586_585 := n6_; clear n0_ n1_ n2_ n3_ n4_ n5_ n6_; clear hb hbox hg; have hnb11 := NB585_586.out; have hnc11 := NB586_585.out; have hcz12_0 : w10.cell? ⟨gb585, 0, none⟩ = some (.int .i64 a0_0) := (blk_cell BK585.out 0).trans rfl; have hcz12_1 : w10.cell? ⟨gb585, 1, none⟩ = some (.int .i64 a0_1) := (blk_cell BK585.out 1).trans rfl; have hcz12_2 : w10.cell? ⟨gb585, 2, none⟩ = some (.slice A0_2 l0_2.length c0_2) := (blk_cell BK585.out 2).trans rfl; have hfz12_0 := blk_frozen BK585.out 0; have hfz12_1 := blk_frozen BK585.out 1; have hfz12_2 := blk_frozen BK585.out 2) | ((with_reducible refine gate_callee (f := 15) rfl ?_); refine goesL_ (some 23) rfl rfl Try.func15 (by kernel_rfl) rfl #[.agg #[.int .i64 a0_0, .int .i64 a0_1, .slice A0_2 l0_2.length c0_2], .int .i64 1048576] rfl zab6 ?_; (with_reducible refine (laws_szBoard.calls a0_0 a0_1 _ _ l0_2 1048576 t587 _ ?side1 ?side2 A7.out).mono ?_); (case side1 => exact zab12); (case side2 => exact HC0_2.out); rintro e w13 ⟨rfl, hb⟩; refine ⟨_, rfl, ?_⟩; have n0_ := Aside0.mk (blk_below (g := gb585) (o := .cells #[.int .i64 a0_0, .int .i64 a0_1, .slice A0_2 l0_2.length c0_2] 24 (0, 0)) zab2 hb); have n1_ := Aside0.mk (blk_below (g := gb586) (o := .cells #[.int .i64 a1_0, .int .i64 a1_1] 26 (0, 0)) zab5 hb); have n2_ := Aside0.mk (below_step zab4 hb); clear BK585; clear BK586; clear HB; have BK585 := n0_; have BK586 := n1_; have HB := n2_; clear n0_ n1_ n2_; (try clear hb); (try clear hb2); (try clear hk); (try clear hi); (try clear hna_); (try clear hnb_)))
  go_ret
  exact ⟨zab16, zab4⟩
 rw [if_neg c8] at H
 have c8b0 : decide (t587 < 0) = false := decide_eq_false c8
 clear c8
 replace H := Option.bind_eq_some_iff.mp H
 obtain ⟨⟨t588, t589, t590⟩, A140, H⟩ := H
 replace H : ((laws_toLeaper.f a1_0 a1_1).bind fun bt593 => ((laws_toIntS.f k l2).bind fun t595 => ((spec_TurnsOfPath.f k t588 t589 t590 bt593.1 bt593.2 t595).bind fun bt598 => ((laws_toBoard.f k a0_0 a0_1 l0_2).bind fun bt602 => ((laws_toIntS.f k l2).bind fun t608 => ((laws_toLeaper.f a1_0 a1_1).bind fun bt611 => ((impl_TurnsOfPath.f k bt602.1 bt602.2.1 bt602.2.2 bt611.1 bt611.2 t608).bind fun bt613 => (if bt613.1 = bt598.1 then (if bt613.2.1 = bt598.2.1 then (if bt613.2.2.1 = bt598.2.2.1 then (laws_FnExactTurnsOfPath.j0 k l2 t608 (bt613.2.2.2 != bt598.2.2.2) a0_0 a0_1 l0_2 bt602.1 bt602.2.1 bt602.2.2) else (laws_FnExactTurnsOfPath.j0 k l2 t608 true a0_0 a0_1 l0_2 bt602.1 bt602.2.1 bt602.2.2)) else (laws_FnExactTurnsOfPath.j0 k l2 t608 true a0_0 a0_1 l0_2 bt602.1 bt602.2.1 bt602.2.2)) else (laws_FnExactTurnsOfPath.j0 k l2 t608 true a0_0 a0_1 l0_2 bt602.1 bt602.2.1 bt602.2.2))))))))) = some r := H
 have A14 := Aside0.mk A140
 clear A140
 replace H := Option.bind_eq_some_iff.mp H
 obtain ⟨⟨t593, t594⟩, A150, H⟩ := H
 replace H : ((laws_toIntS.f k l2).bind fun t595 => ((spec_TurnsOfPath.f k t588 t589 t590 t593 t594 t595).bind fun bt598 => ((laws_toBoard.f k a0_0 a0_1 l0_2).bind fun bt602 => ((laws_toIntS.f k l2).bind fun t608 => ((laws_toLeaper.f a1_0 a1_1).bind fun bt611 => ((impl_TurnsOfPath.f k bt602.1 bt602.2.1 bt602.2.2 bt611.1 bt611.2 t608).bind fun bt613 => (if bt613.1 = bt598.1 then (if bt613.2.1 = bt598.2.1 then (if bt613.2.2.1 = bt598.2.2.1 then (laws_FnExactTurnsOfPath.j0 k l2 t608 (bt613.2.2.2 != bt598.2.2.2) a0_0 a0_1 l0_2 bt602.1 bt602.2.1 bt602.2.2) else (laws_FnExactTurnsOfPath.j0 k l2 t608 true a0_0 a0_1 l0_2 bt602.1 bt602.2.1 bt602.2.2)) else (laws_FnExactTurnsOfPath.j0 k l2 t608 true a0_0 a0_1 l0_2 bt602.1 bt602.2.1 bt602.2.2)) else (laws_FnExactTurnsOfPath.j0 k l2 t608 true a0_0 a0_1 l0_2 bt602.1 bt602.2.1 bt602.2.2)))))))) = some r := H
 have A15 := Aside0.mk A150
 clear A150
 replace H := Option.bind_eq_some_iff.mp H
 obtain ⟨t595, A160, H⟩ := H
 replace H : ((spec_TurnsOfPath.f k t588 t589 t590 t593 t594 t595).bind fun bt598 => ((laws_toBoard.f k a0_0 a0_1 l0_2).bind fun bt602 => ((laws_toIntS.f k l2).bind fun t608 => ((laws_toLeaper.f a1_0 a1_1).bind fun bt611 => ((impl_TurnsOfPath.f k bt602.1 bt602.2.1 bt602.2.2 bt611.1 bt611.2 t608).bind fun bt613 => (if bt613.1 = bt598.1 then (if bt613.2.1 = bt598.2.1 then (if bt613.2.2.1 = bt598.2.2.1 then (laws_FnExactTurnsOfPath.j0 k l2 t608 (bt613.2.2.2 != bt598.2.2.2) a0_0 a0_1 l0_2 bt602.1 bt602.2.1 bt602.2.2) else (laws_FnExactTurnsOfPath.j0 k l2 t608 true a0_0 a0_1 l0_2 bt602.1 bt602.2.1 bt602.2.2)) else (laws_FnExactTurnsOfPath.j0 k l2 t608 true a0_0 a0_1 l0_2 bt602.1 bt602.2.1 bt602.2.2)) else (laws_FnExactTurnsOfPath.j0 k l2 t608 true a0_0 a0_1 l0_2 bt602.1 bt602.2.1 bt602.2.2))))))) = some r := H
 have A16 := Aside0.mk A160
 clear A160
 replace H := Option.bind_eq_some_iff.mp H
 obtain ⟨⟨t598, t599, t600, t601⟩, A170, H⟩ := H
 replace H : ((laws_toBoard.f k a0_0 a0_1 l0_2).bind fun bt602 => ((laws_toIntS.f k l2).bind fun t608 => ((laws_toLeaper.f a1_0 a1_1).bind fun bt611 => ((impl_TurnsOfPath.f k bt602.1 bt602.2.1 bt602.2.2 bt611.1 bt611.2 t608).bind fun bt613 => (if bt613.1 = t598 then (if bt613.2.1 = t599 then (if bt613.2.2.1 = t600 then (laws_FnExactTurnsOfPath.j0 k l2 t608 (bt613.2.2.2 != t601) a0_0 a0_1 l0_2 bt602.1 bt602.2.1 bt602.2.2) else (laws_FnExactTurnsOfPath.j0 k l2 t608 true a0_0 a0_1 l0_2 bt602.1 bt602.2.1 bt602.2.2)) else (laws_FnExactTurnsOfPath.j0 k l2 t608 true a0_0 a0_1 l0_2 bt602.1 bt602.2.1 bt602.2.2)) else (laws_FnExactTurnsOfPath.j0 k l2 t608 true a0_0 a0_1 l0_2 bt602.1 bt602.2.1 bt602.2.2)))))) = some r := H
 have A17 := Aside0.mk A170
 clear A170
 replace H := Option.bind_eq_some_iff.mp H
 obtain ⟨⟨t602, t603, t604⟩, A180, H⟩ := H
 replace H : ((laws_toIntS.f k l2).bind fun t608 => ((laws_toLeaper.f a1_0 a1_1).bind fun bt611 => ((impl_TurnsOfPath.f k t602 t603 t604 bt611.1 bt611.2 t608).bind fun bt613 => (if bt613.1 = t598 then (if bt613.2.1 = t599 then (if bt613.2.2.1 = t600 then (laws_FnExactTurnsOfPath.j0 k l2 t608 (bt613.2.2.2 != t601) a0_0 a0_1 l0_2 t602 t603 t604) else (laws_FnExactTurnsOfPath.j0 k l2 t608 true a0_0 a0_1 l0_2 t602 t603 t604)) else (laws_FnExactTurnsOfPath.j0 k l2 t608 true a0_0 a0_1 l0_2 t602 t603 t604)) else (laws_FnExactTurnsOfPath.j0 k l2 t608 true a0_0 a0_1 l0_2 t602 t603 t604))))) = some r := H
 have A18 := Aside0.mk A180
 clear A180
 replace H := Option.bind_eq_some_iff.mp H
 obtain ⟨t608, A190, H⟩ := H
 replace H : ((laws_toLeaper.f a1_0 a1_1).bind fun bt611 => ((impl_TurnsOfPath.f k t602 t603 t604 bt611.1 bt611.2 t608).bind fun bt613 => (if bt613.1 = t598 then (if bt613.2.1 = t599 then (if bt613.2.2.1 = t600 then (laws_FnExactTurnsOfPath.j0 k l2 t608 (bt613.2.2.2 != t601) a0_0 a0_1 l0_2 t602 t603 t604) else (laws_FnExactTurnsOfPath.j0 k l2 t608 true a0_0 a0_1 l0_2 t602 t603 t604)) else (laws_FnExactTurnsOfPath.j0 k l2 t608 true a0_0 a0_1 l0_2 t602 t603 t604)) else (laws_FnExactTurnsOfPath.j0 k l2 t608 true a0_0 a0_1 l0_2 t602 t603 t604)))) = some r := H
 have A19 := Aside0.mk A190
 clear A190
 replace H := Option.bind_eq_some_iff.mp H
 obtain ⟨⟨t611, t612⟩, A200, H⟩ := H
 replace H : ((impl_TurnsOfPath.f k t602 t603 t604 t611 t612 t608).bind fun bt613 => (if bt613.1 = t598 then (if bt613.2.1 = t599 then (if bt613.2.2.1 = t600 then (laws_FnExactTurnsOfPath.j0 k l2 t608 (bt613.2.2.2 != t601) a0_0 a0_1 l0_2 t602 t603 t604) else (laws_FnExactTurnsOfPath.j0 k l2 t608 true a0_0 a0_1 l0_2 t602 t603 t604)) else (laws_FnExactTurnsOfPath.j0 k l2 t608 true a0_0 a0_1 l0_2 t602 t603 t604)) else (laws_FnExactTurnsOfPath.j0 k l2 t608 true a0_0 a0_1 l0_2 t602 t603 t604))) = some r := H
 have A20 := Aside0.mk A200
 clear A200
 replace H := Option.bind_eq_some_iff.mp H
 obtain ⟨⟨t613, t614, t615, t616⟩, A210, H⟩ := H
 replace H : (if t613 = t598 then (if t614 = t599 then (if t615 = t600 then (laws_FnExactTurnsOfPath.j0 k l2 t608 (t616 != t601) a0_0 a0_1 l0_2 t602 t603 t604) else (laws_FnExactTurnsOfPath.j0 k l2 t608 true a0_0 a0_1 l0_2 t602 t603 t604)) else (laws_FnExactTurnsOfPath.j0 k l2 t608 true a0_0 a0_1 l0_2 t602 t603 t604)) else (laws_FnExactTurnsOfPath.j0 k l2 t608 true a0_0 a0_1 l0_2 t602 t603 t604)) = some r := H
 have A21 := Aside0.mk A210
 clear A210
 have HC22 := Aside0.mk H
 clear H
 go_enter Try.func6, Try.ntmps6
 try go_wp2_with (first | ((with_reducible refine gate_dst (N := 3) rfl ?_); refine box_event ?hg (N := 3) ?hd (cs := #[.int .i64 a0_0, .int .i64 a0_1, .slice A0_2 l0_2.length c0_2]) (t := 24) ?hr ?_; (case hd => rfl); (case hg => rfl); (case hr => first | (go_simp; done) | (go_simp; rfl)); intro gb585 hg w23 hbox hb; have n0_ := Aside0.mk (below_step zab11 hb); have n1_ := Aside0.mk (hbox); have n2_ := Aside0.mk ((zab31 : w.heap.size ≤ gb585)); have n3_ := Aside0.mk ((zab31 : w.heap.size ≤ gb585)); clear HB; have HB := n0_; have BK585 := n1_; have GW585 := n2_; have GE585 := n3_; clear n0_ n1_ n2_ n3_; clear hb hbox hg) | ((with_reducible refine gate_dst (N := 4) rfl ?_); refine box_event ?hg (N := 4) ?hd (cs := #[.int .i64 a1_0, .int .i64 a1_1]) (t := 26) ?hr ?_; (case hd => rfl); (case hg => rfl); (case hr => first | (go_simp; done) | (go_simp; rfl)); intro gb586 hg w24 hbox hb; have n0_ := Aside0.mk (blk_below (g := gb585) (o := .cells #[.int .i64 a0_0, .int .i64 a0_1, .slice A0_2 l0_2.length c0_2] 24 (0, 0)) zab2 hb); have n1_ := Aside0.mk (below_step zab8 hb); have n2_ := Aside0.mk (hbox); have n3_ := Aside0.mk ((zab32 : w.heap.size ≤ gb586)); have n4_ := Aside0.mk ((zab32 : w.heap.size ≤ gb586)); have n5_ := Aside0.mk ((zab29 : gb585 ≠ gb586)); have n6_ := Aside0.mk ((zab30 : gb586 ≠ gb585)); clear BK585; clear HB; have BK585 := n0_; have HB := n1_; have BK586 := n2_; have GW586 := n3_; have GE586 := n4_; have NB585_586 := n5_; have NB586_585 := n6_; clear n0_ n1_ n2_ n3_ n4_ n5_ n6_; clear hb hbox hg; have hnb25 := NB585_586.out; have hnc25 := NB586_585.out; have hcz26_0 : w24.cell? ⟨gb585, 0, none⟩ = some (.int .i64 a0_0) := (blk_cell BK585.out 0).trans rfl; have hcz26_1 : w24.cell? ⟨gb585, 1, none⟩ = some (.int .i64 a0_1) := (blk_cell BK585.out 1).trans rfl; have hcz26_2 : w24.cell? ⟨gb585, 2, none⟩ = some (.slice A0_2 l0_2.length c0_2) := (blk_cell BK585.out 2).trans rfl; have hfz26_0 := blk_frozen BK585.out 0; have hfz26_1 := blk_frozen BK585.out 1; have hfz26_2 := blk_frozen BK585.out 2) | ((with_reducible refine gate_callee (f := 15) rfl ?_); refine goesL_ (some 23) rfl rfl Try.func15 (by kernel_rfl) rfl #[.agg #[.int .i64 a0_0, .int .i64 a0_1, .slice A0_2 l0_2.length c0_2], .int .i64 1048576] rfl zab6 ?_; (with_reducible refine (laws_szBoard.calls a0_0 a0_1 _ _ l0_2 1048576 t587 _ ?side1 ?side2 A7.out).mono ?_); (case side1 => exact zab12); (case side2 => exact HC0_2.out); rintro e w27 ⟨rfl, hb⟩; refine ⟨_, rfl, ?_⟩; have n0_ := Aside0.mk (blk_below (g := gb585) (o := .cells #[.int .i64 a0_0, .int .i64 a0_1, .slice A0_2 l0_2.length c0_2] 24 (0, 0)) zab2 hb); have n1_ := Aside0.mk (blk_below (g := gb586) (o := .cells #[.int .i64 a1_0, .int .i64 a1_1] 26 (0, 0)) zab5 hb); have n2_ := Aside0.mk (below_step zab4 hb); clear BK585; clear BK586; clear HB; have BK585 := n0_; have BK586 := n1_; have HB := n2_; clear n0_ n1_ n2_; (try clear hb); (try clear hb2); (try clear hk); (try clear hi); (try clear hna_); (try clear hnb_)))
 have n0_ := Aside0.mk (blk_drew BK585.out)
 have n1_ := Aside0.mk (blk_drew BK586.out)
 have n2_ := Aside0.mk (below_drew1 HB.out)
 clear BK585
 clear BK586
 clear HB
 have BK585 := n0_
 have BK586 := n1_
 have HB := n2_
 clear n0_ n1_ n2_
 refine start_ (n := 16) (S := fun w' => w'.cell? ⟨gb585, 0, none⟩ = some (.int .i64 a0_0) ∧ w'.cell? ⟨gb585, 1, none⟩ = some (.int .i64 a0_1) ∧ w'.cell? ⟨gb585, 2, none⟩ = some (.slice A0_2 l0_2.length c0_2) ∧ w'.cell? ⟨gb586, 0, none⟩ = some (.int .i64 a1_0) ∧ w'.cell? ⟨gb586, 1, none⟩ = some (.int .i64 a1_1)) (ds := []) #[false, false, false, false, false, false, false, false, false, false, false, false, false, false, false, false] (by kernel_rfl) rfl rfl ⟨(blk_cell BK585.out 0).trans rfl, (blk_cell BK585.out 1).trans rfl, (blk_cell BK585.out 2).trans rfl, (blk_cell BK586.out 0).trans rfl, (blk_cell BK586.out 1).trans rfl⟩ (fun hHeld => ?_); refine with_tabW laws_FnExactTurnsOfPath.tab7 laws_FnExactTurnsOfPath.bits7 (fun HT_ HW_ => ?_)
 generalize w27.drew = w28 at BK585 BK586 HB hHeld ⊢
 refine pure_ (i := 4) (N := some 31) (v := ?_) (a' := ?_) #[false, false, false, false, true, false, false, false, false, false, false, false, false, false, false, false] rfl rfl (any_of HT_.out (by kernel_rfl)) (fun _ _ _ h => h) (Or.inl ⟨by rfl, ?_⟩) ?_ ?_
 rotate_left
 ·intro w'
  go_simp
  with_reducible rfl
 rotate_left
 ·simp only [Act.put, List.setIfInBounds_toArray, List.set_cons_zero, List.set_cons_succ, i64_w, i32_w]
  rfl
 refine take_ (i := 0) (N := some 27) (v := ?_) (a' := ?_) #[true, false, false, false, true, false, false, false, false, false, false, false, false, false, false, false] rfl rfl (take_ofW HT_.out HW_.out (by kernel_rfl)) (fun _ _ _ h => h) (Or.inl ⟨by rfl, ?_⟩) hHeld ?_ ?_
 rotate_left
 ·rintro w' ⟨s0, s1, s2, s3, s4⟩
  go_simp
  with_reducible rfl
 rotate_left
 ·simp only [Act.put, List.setIfInBounds_toArray, List.set_cons_zero, List.set_cons_succ, i64_w, i32_w]
  rfl
 refine take_ (i := 2) (N := some 29) (v := ?_) (a' := ?_) #[true, false, true, false, true, false, false, false, false, false, false, false, false, false, false, false] rfl rfl (take_ofW HT_.out HW_.out (by kernel_rfl)) (fun _ _ _ h => h) (Or.inl ⟨by rfl, ?_⟩) hHeld ?_ ?_
 rotate_left
 ·rintro w' ⟨s0, s1, s2, s3, s4⟩
  go_simp
  with_reducible rfl
 rotate_left
 ·simp only [Act.put, List.setIfInBounds_toArray, List.set_cons_zero, List.set_cons_succ, i64_w, i32_w]
  rfl
 refine one_ (i := 1) (N := some 28) #[true, true, true, false, true, false, false, false, false, false, false, false, false, false, false, false] rfl rfl (one_of HT_.out (by kernel_rfl)) (by decide) (fun K hK => ?_)
 refine goes_ Try.func17 (by kernel_rfl) rfl #[.agg #[.int .i64 a0_0, .int .i64 a0_1, .slice A0_2 l0_2.length c0_2]] (by rfl) rfl rfl zab6 ?_
 with_reducible refine (laws_toBoard.calls k a0_0 a0_1 _ _ l0_2 t588 t589 t590 _ ?side1 ?side2 A14.out).mono ?_
 (case side1 => exact zab12)
 (case side2 => exact HC0_2.out)
 rintro e w29 ⟨v591, rfl, ho0, hb⟩
 refine ⟨_, rfl, ?_⟩
 have n0_ := Aside0.mk (Kd.R_lower ho0 (below_size zab4))
 have n1_ := Aside0.mk (blk_below (g := gb585) (o := .cells #[.int .i64 a0_0, .int .i64 a0_1, .slice A0_2 l0_2.length c0_2] 24 (0, 0)) zab2 hb)
 have n2_ := Aside0.mk (blk_below (g := gb586) (o := .cells #[.int .i64 a1_0, .int .i64 a1_1] 26 (0, 0)) zab5 hb)
 have n3_ := Aside0.mk (below_step zab4 hb)
 clear BK585
 clear BK586
 clear HB
 have HO592 := n0_
 have BK585 := n1_
 have BK586 := n2_
 have HB := n3_
 clear n0_ n1_ n2_ n3_
 (try clear hb)
 (try clear hb2)
 (try clear hk)
 (try clear hi)
 (try clear ho0)
 (try clear hna_)
 (try clear hnb_)
 refine hK.out _ _ ⟨(blk_cell BK585.out 0).trans rfl, (blk_cell BK585.out 1).trans rfl, (blk_cell BK585.out 2).trans rfl, (blk_cell BK586.out 0).trans rfl, (blk_cell BK586.out 1).trans rfl⟩ (fun hHeld => ?_)
 clear hK K
 refine norm_ (a' := ?_) ?_ ?_
 rotate_left
 ·show Act.put _ (some 28) _ = _
  simp only [Act.put, List.setIfInBounds_toArray, List.set_cons_zero, List.set_cons_succ, i64_w, i32_w]
  rfl
 refine one_ (i := 3) (N := some 30) #[true, true, true, true, true, false, false, false, false, false, false, false, false, false, false, false] rfl rfl (one_of HT_.out (by kernel_rfl)) (by decide) (fun K hK => ?_)
 refine goes_ Try.func18 (by kernel_rfl) rfl #[.agg #[.int .i64 a1_0, .int .i64 a1_1]] (by rfl) rfl rfl zab6 ?_
 with_reducible refine (laws_toLeaper.calls a1_0 a1_1 t593 t594 _ A15.out).mono ?_
 rintro e w30 ⟨rfl, hb⟩
 refine ⟨_, rfl, ?_⟩
 have n0_ := Aside0.mk (Kd.R_below zab13 hb)
 have n1_ := Aside0.mk (blk_below (g := gb585) (o := .cells #[.int .i64 a0_0, .int .i64 a0_1, .slice A0_2 l0_2.length c0_2] 24 (0, 0)) zab2 hb)
 have n2_ := Aside0.mk (blk_below (g := gb586) (o := .cells #[.int .i64 a1_0, .int .i64 a1_1] 26 (0, 0)) zab5 hb)
 have n3_ := Aside0.mk (below_step zab4 hb)
 clear HO592
 clear BK585
 clear BK586
 clear HB
 have HO592 := n0_
 have BK585 := n1_
 have BK586 := n2_
 have HB := n3_
 clear n0_ n1_ n2_ n3_
 (try clear hb)
 (try clear hb2)
 (try clear hk)
 (try clear hi)
 (try clear hna_)
 (try clear hnb_)
 refine hK.out _ _ ⟨(blk_cell BK585.out 0).trans rfl, (blk_cell BK585.out 1).trans rfl, (blk_cell BK585.out 2).trans rfl, (blk_cell BK586.out 0).trans rfl, (blk_cell BK586.out 1).trans rfl⟩ (fun hHeld => ?_)
 clear hK K
 refine norm_ (a' := ?_) ?_ ?_
 rotate_left
 ·show Act.put _ (some 30) _ = _
  simp only [Act.put, List.setIfInBounds_toArray, List.set_cons_zero, List.set_cons_succ, i64_w, i32_w]
  rfl
 refine one_ (i := 5) (N := some 32) #[true, true, true, true, true, true, false, false, false, false, false, false, false, false, false, false] rfl rfl (one_of HT_.out (by kernel_rfl)) (by decide) (fun K hK => ?_)
 refine goes_ Try.func19 (by kernel_rfl) rfl #[.slice A2 l2.length c2] (by rfl) rfl rfl zab6 ?_
 with_reducible refine (laws_toIntS.calls k _ _ l2 t595 _ ?side1 ?side2 A16.out).mono ?_
 (case side1 => exact zab24)
 (case side2 => exact HC2.out)
 rintro e w31 ⟨v596, rfl, ho0, hb⟩
 refine ⟨_, rfl, ?_⟩
 have n0_ := Aside0.mk (Kd.R_elder' zab13 (Kd.R_base ho0) hb)
 have n1_ := Aside0.mk (Kd.R_lower (Kd.R_new' ho0 (Kd.R_lt zab13)) (below_size zab4))
 have n2_ := Aside0.mk (blk_below (g := gb585) (o := .cells #[.int .i64 a0_0, .int .i64 a0_1, .slice A0_2 l0_2.length c0_2] 24 (0, 0)) zab2 hb)
 have n3_ := Aside0.mk (blk_below (g := gb586) (o := .cells #[.int .i64 a1_0, .int .i64 a1_1] 26 (0, 0)) zab5 hb)
 have n4_ := Aside0.mk (below_step zab4 hb)
 clear HO592
 clear BK585
 clear BK586
 clear HB
 have HO592 := n0_
 have HO597 := n1_
 have BK585 := n2_
 have BK586 := n3_
 have HB := n4_
 clear n0_ n1_ n2_ n3_ n4_
 (try clear hb)
 (try clear hb2)
 (try clear hk)
 (try clear hi)
 (try clear ho0)
 (try clear hna_)
 (try clear hnb_)
 obtain ⟨Ao32, co32, eo32⟩ := Kd.R_slice HO592.out
 (first | subst eo32 | (injection eo32 with f1_ f2_ f3_; have f4_ := f1_.symm; have f5_ := f3_.symm; clear f1_ f2_ f3_; subst f4_; subst f5_))
 obtain ⟨Ao33, co33, eo33⟩ := Kd.R_slice HO597.out
 (first | subst eo33 | (injection eo33 with f1_ f2_ f3_; have f4_ := f1_.symm; have f5_ := f3_.symm; clear f1_ f2_ f3_; subst f4_; subst f5_))
 refine hK.out _ _ ⟨(blk_cell BK585.out 0).trans rfl, (blk_cell BK585.out 1).trans rfl, (blk_cell BK585.out 2).trans rfl, (blk_cell BK586.out 0).trans rfl, (blk_cell BK586.out 1).trans rfl⟩ (fun hHeld => ?_)
 clear hK K
 refine norm_ (a' := ?_) ?_ ?_
 rotate_left
 ·show Act.put _ (some 32) _ = _
  simp only [Act.put, List.setIfInBounds_toArray, List.set_cons_zero, List.set_cons_succ, i64_w, i32_w]
  rfl
 refine one_ (i := 6) (N := some 33) #[true, true, true, true, true, true, true, false, false, false, false, false, false, false, false, false] rfl rfl (one_of HT_.out (by kernel_rfl)) (by decide) (fun K hK => ?_)
 refine goes_ Try.func27 (by kernel_rfl) rfl #[.agg #[.int .i64 t588, .int .i64 t589, .slice Ao32 t590.length co32], .agg #[.int .i64 t593, .int .i64 t594], .slice Ao33 t595.length co33] (by rfl) rfl rfl zab6 ?_
 with_reducible refine (spec_TurnsOfPath.calls k t588 t589 _ _ t590 t593 t594 _ _ t595 t598 t599 t600 t601 _ ?side1 ?side2 ?side3 ?side4 A17.out).mono ?_
 (case side1 => repeat (first | exact (Kd.R_reads' HO592.out).2.2 | (with_reducible refine Kd.C_alloc ?_ _) | (with_reducible refine Kd.C_drewN ?_ _) | (with_reducible refine Kd.C_drew ?_)))
 (case side2 => exact (Kd.R_reads' HO592.out).2.1)
 (case side3 => repeat (first | exact (Kd.R_reads' HO597.out).2.2 | (with_reducible refine Kd.C_alloc ?_ _) | (with_reducible refine Kd.C_drewN ?_ _) | (with_reducible refine Kd.C_drew ?_)))
 (case side4 => exact (Kd.R_reads' HO597.out).2.1)
 rintro e w34 ⟨rfl, hb⟩
 refine ⟨_, rfl, ?_⟩
 have n0_ := Aside0.mk (Kd.R_below zab13 hb)
 have n1_ := Aside0.mk (Kd.R_below zab15 hb)
 have n2_ := Aside0.mk (blk_below (g := gb585) (o := .cells #[.int .i64 a0_0, .int .i64 a0_1, .slice A0_2 l0_2.length c0_2] 24 (0, 0)) zab2 hb)
 have n3_ := Aside0.mk (blk_below (g := gb586) (o := .cells #[.int .i64 a1_0, .int .i64 a1_1] 26 (0, 0)) zab5 hb)
 have n4_ := Aside0.mk (below_step zab4 hb)
 clear HO592
 clear HO597
 clear BK585
 clear BK586
 clear HB
 have HO592 := n0_
 have HO597 := n1_
 have BK585 := n2_
 have BK586 := n3_
 have HB := n4_
 clear n0_ n1_ n2_ n3_ n4_
 (try clear hb)
 (try clear hb2)
 (try clear hk)
 (try clear hi)
 (try clear hna_)
 (try clear hnb_)
 refine hK.out _ _ ⟨(blk_cell BK585.out 0).trans rfl, (blk_cell BK585.out 1).trans rfl, (blk_cell BK585.out 2).trans rfl, (blk_cell BK586.out 0).trans rfl, (blk_cell BK586.out 1).trans rfl⟩ (fun hHeld => ?_)
 clear hK K
 refine norm_ (a' := ?_) ?_ ?_
 rotate_left
 ·show Act.put _ (some 33) _ = _
  simp only [Act.put, List.setIfInBounds_toArray, List.set_cons_zero, List.set_cons_succ, i64_w, i32_w]
  rfl
 refine pure_ (i := 7) (N := some 26) (v := ?_) (a' := ?_) #[true, true, true, true, true, true, true, true, false, false, false, false, false, false, false, false] rfl rfl (any_of HT_.out (by kernel_rfl)) (fun _ _ _ h => h) (Or.inl ⟨by rfl, ?_⟩) ?_ ?_
 rotate_left
 ·intro w'
  go_simp
  with_reducible rfl
 rotate_left
 ·simp only [Act.put, List.setIfInBounds_toArray, List.set_cons_zero, List.set_cons_succ, i64_w, i32_w]
  rfl
 refine pure_ (i := 8) (N := some 34) (v := ?_) (a' := ?_) #[true, true, true, true, true, true, true, true, true, false, false, false, false, false, false, false] rfl rfl (any_of HT_.out (by kernel_rfl)) (fun _ _ _ h => h) (Or.inl ⟨by rfl, ?_⟩) ?_ ?_
 rotate_left
 ·intro w'
  go_simp
  with_reducible rfl
 rotate_left
 ·simp only [Act.put, List.setIfInBounds_toArray, List.set_cons_zero, List.set_cons_succ, i64_w, i32_w]
  rfl
 refine pure_ (i := 9) (N := some 35) (v := ?_) (a' := ?_) #[true, true, true, true, true, true, true, true, true, true, false, false, false, false, false, false] rfl rfl (any_of HT_.out (by kernel_rfl)) (fun _ _ _ h => h) (Or.inl ⟨by rfl, ?_⟩) ?_ ?_
 rotate_left
 ·intro w'
  go_simp
  with_reducible rfl
 rotate_left
 ·simp only [Act.put, List.setIfInBounds_toArray, List.set_cons_zero, List.set_cons_succ, i64_w, i32_w]
  rfl
 refine pure_ (i := 10) (N := some 36) (v := ?_) (a' := ?_) #[true, true, true, true, true, true, true, true, true, true, true, false, false, false, false, false] rfl rfl (any_of HT_.out (by kernel_rfl)) (fun _ _ _ h => h) (Or.inl ⟨by rfl, ?_⟩) ?_ ?_
 rotate_left
 ·intro w'
  go_simp
  with_reducible rfl
 rotate_left
 ·simp only [Act.put, List.setIfInBounds_toArray, List.set_cons_zero, List.set_cons_succ, i64_w, i32_w]
  rfl
 refine pure_ (i := 11) (N := some 37) (v := ?_) (a' := ?_) #[true, true, true, true, true, true, true, true, true, true, true, true, false, false, false, false] rfl rfl (any_of HT_.out (by kernel_rfl)) (fun _ _ _ h => h) (Or.inl ⟨by rfl, ?_⟩) ?_ ?_
 rotate_left
 ·intro w'
  go_simp
  with_reducible rfl
 rotate_left
 ·simp only [Act.put, List.setIfInBounds_toArray, List.set_cons_zero, List.set_cons_succ, i64_w, i32_w]
  rfl
 refine pure_ (i := 12) (N := some 8) (v := ?_) (a' := ?_) #[true, true, true, true, true, true, true, true, true, true, true, true, true, false, false, false] rfl rfl (any_of HT_.out (by kernel_rfl)) (fun _ _ _ h => h) (Or.inl ⟨by rfl, ?_⟩) ?_ ?_
 rotate_left
 ·intro w'
  go_simp
  with_reducible rfl
 rotate_left
 ·simp only [Act.put, List.setIfInBounds_toArray, List.set_cons_zero, List.set_cons_succ, i64_w, i32_w]
  rfl
 refine pure_ (i := 13) (N := some 9) (v := ?_) (a' := ?_) #[true, true, true, true, true, true, true, true, true, true, true, true, true, true, false, false] rfl rfl (any_of HT_.out (by kernel_rfl)) (fun _ _ _ h => h) (Or.inl ⟨by rfl, ?_⟩) ?_ ?_
 rotate_left
 ·intro w'
  go_simp
  with_reducible rfl
 rotate_left
 ·simp only [Act.put, List.setIfInBounds_toArray, List.set_cons_zero, List.set_cons_succ, i64_w, i32_w]
  rfl
 refine pure_ (i := 14) (N := some 10) (v := ?_) (a' := ?_) #[true, true, true, true, true, true, true, true, true, true, true, true, true, true, true, false] rfl rfl (any_of HT_.out (by kernel_rfl)) (fun _ _ _ h => h) (Or.inl ⟨by rfl, ?_⟩) ?_ ?_
 rotate_left
 ·intro w'
  go_simp
  with_reducible rfl
 rotate_left
 ·simp only [Act.put, List.setIfInBounds_toArray, List.set_cons_zero, List.set_cons_succ, i64_w, i32_w]
  rfl
 refine pure_ (i := 15) (N := some 11) (v := ?_) (a' := ?_) #[true, true, true, true, true, true, true, true, true, true, true, true, true, true, true, true] rfl rfl (any_of HT_.out (by kernel_rfl)) (fun _ _ _ h => h) (Or.inl ⟨by rfl, ?_⟩) ?_ ?_
 rotate_left
 ·intro w'
  go_simp
  with_reducible rfl
 rotate_left
 ·simp only [Act.put, List.setIfInBounds_toArray, List.set_cons_zero, List.set_cons_succ, i64_w, i32_w]
  rfl
 refine done_ (done_of HT_.out (by kernel_rfl)) ?_
 have hcz35_0 : w34.cell? ⟨gb585, 0, none⟩ = some (.int .i64 a0_0) := (blk_cell BK585.out 0).trans rfl
 have hcz35_1 : w34.cell? ⟨gb585, 1, none⟩ = some (.int .i64 a0_1) := (blk_cell BK585.out 1).trans rfl
 have hcz35_2 : w34.cell? ⟨gb585, 2, none⟩ = some (.slice A0_2 l0_2.length c0_2) := (blk_cell BK585.out 2).trans rfl
 have hfz35_0 := blk_frozen BK585.out 0
 have hfz35_1 := blk_frozen BK585.out 1
 have hfz35_2 := blk_frozen BK585.out 2
 try go_wp2_with (first | ((with_reducible refine gate_callee (f := 17) rfl ?_); refine goesL_ (some 39) rfl rfl Try.func17 (by kernel_rfl) rfl #[.agg #[.int .i64 a0_0, .int .i64 a0_1, .slice A0_2 l0_2.length c0_2]] rfl zab6 ?_; (with_reducible refine (laws_toBoard.calls k a0_0 a0_1 _ _ l0_2 t602 t603 t604 _ ?side1 ?side2 A18.out).mono ?_); (case side1 => exact zab12); (case side2 => exact HC0_2.out); rintro e w36 ⟨v605, rfl, ho0, hb⟩; refine ⟨_, rfl, ?_⟩; have n0_ := Aside0.mk (Kd.R_elder' zab13 (Kd.R_base ho0) hb); have n1_ := Aside0.mk (Kd.R_elder' zab15 (Kd.R_base ho0) hb); have n2_ := Aside0.mk (Kd.R_lower (Kd.R_new' (Kd.R_new' ho0 (Kd.R_lt zab13)) (Kd.R_lt zab15)) (below_size zab4)); have n3_ := Aside0.mk (blk_below (g := gb585) (o := .cells #[.int .i64 a0_0, .int .i64 a0_1, .slice A0_2 l0_2.length c0_2] 24 (0, 0)) zab2 hb); have n4_ := Aside0.mk (blk_below (g := gb586) (o := .cells #[.int .i64 a1_0, .int .i64 a1_1] 26 (0, 0)) zab5 hb); have n5_ := Aside0.mk (below_step zab4 hb); clear HO592; clear HO597; clear BK585; clear BK586; clear HB; have HO592 := n0_; have HO597 := n1_; have HO606 := n2_; have BK585 := n3_; have BK586 := n4_; have HB := n5_; clear n0_ n1_ n2_ n3_ n4_ n5_; (try clear hb); (try clear hb2); (try clear hk); (try clear hi); (try clear ho0); (try clear hna_); (try clear hnb_)) | ((with_reducible refine gate_dst (N := 12) rfl ?_); refine box_event ?hg (N := 12) ?hd (cs := #[.int .i64 0, .int .i64 0, .slice none 0 0]) (t := 30) ?hr ?_; (case hd => rfl); (case hg => rfl); (case hr => first | (go_simp; done) | (go_simp; rfl)); intro gb607 hg w37 hbox hb; have n0_ := Aside0.mk (Kd.R_below zab13 hb); have n1_ := Aside0.mk (Kd.R_below zab15 hb); have n2_ := Aside0.mk (Kd.R_below zab25 hb); have n3_ := Aside0.mk (blk_below (g := gb585) (o := .cells #[.int .i64 a0_0, .int .i64 a0_1, .slice A0_2 l0_2.length c0_2] 24 (0, 0)) zab2 hb); have n4_ := Aside0.mk (blk_below (g := gb586) (o := .cells #[.int .i64 a1_0, .int .i64 a1_1] 26 (0, 0)) zab5 hb); have n5_ := Aside0.mk (below_step zab4 hb); have n6_ := Aside0.mk (hbox); have n7_ := Aside0.mk ((by rw [hg]; exact (below_size zab4) : w.heap.size ≤ gb607)); have n8_ := Aside0.mk ((by rw [hg]; exact (below_size zab4) : w.heap.size ≤ gb607)); have n9_ := Aside0.mk ((zab29 : gb585 ≠ gb607)); have n10_ := Aside0.mk ((zab30 : gb607 ≠ gb585)); have n11_ := Aside0.mk ((by rw [hg]; exact Nat.ne_of_lt (blk_lt (g := gb586) (o := .cells #[.int .i64 a1_0, .int .i64 a1_1] 26 (0, 0)) zab5) : gb586 ≠ gb607)); have n12_ := Aside0.mk ((by rw [hg]; exact Nat.ne_of_gt (blk_lt (g := gb586) (o := .cells #[.int .i64 a1_0, .int .i64 a1_1] 26 (0, 0)) zab5) : gb607 ≠ gb586)); clear HO592; clear HO597; clear HO606; clear BK585; clear BK586; clear HB; have HO592 := n0_; have HO597 := n1_; have HO606 := n2_; have BK585 := n3_; have BK586 := n4_; have HB := n5_; have BK607 := n6_; have GW607 := n7_; have GE607 := n8_; have NB585_607 := n9_; have NB607_585 := n10_; have NB586_607 := n11_; have NB607_586 := n12_; clear n0_ n1_ n2_ n3_ n4_ n5_ n6_ n7_ n8_ n9_ n10_ n11_ n12_; clear hb hbox hg; have hnb38 := NB607_585.out; have hnc38 := NB585_607.out; have hnb39 := NB607_586.out; have hnc39 := NB586_607.out; have hcz40_0 : w37.cell? ⟨gb607, 0, none⟩ = some (.int .i64 0) := (blk_cell BK607.out 0).trans rfl; have hcz40_1 : w37.cell? ⟨gb607, 1, none⟩ = some (.int .i64 0) := (blk_cell BK607.out 1).trans rfl; have hcz40_2 : w37.cell? ⟨gb607, 2, none⟩ = some (.slice none 0 0) := (blk_cell BK607.out 2).trans rfl; have hfz40_0 := blk_frozen BK607.out 0; have hfz40_1 := blk_frozen BK607.out 1; have hfz40_2 := blk_frozen BK607.out 2; obtain ⟨Ao41, co41, eo41⟩ := Kd.R_slice HO606.out; subst eo41) | ((with_reducible refine gate_callee (f := 19) rfl ?_); refine goesL_ (some 41) rfl rfl Try.func19 (by kernel_rfl) rfl #[.slice A2 l2.length c2] rfl zab6 ?_; (with_reducible refine (laws_toIntS.calls k _ _ l2 t608 _ ?side1 ?side2 A19.out).mono ?_); (case side1 => exact Kd.C_below HR2.out zab1); (case side2 => exact HC2.out); rintro e w42 ⟨v609, rfl, ho0, hb⟩; refine ⟨_, rfl, ?_⟩; have n0_ := Aside0.mk (Kd.R_elder' zab19 (Kd.R_base ho0) hb); have n1_ := Aside0.mk (Kd.R_elder' zab18 (Kd.R_base ho0) hb); have n2_ := Aside0.mk (Kd.R_elder' zab17 (Kd.R_base ho0) hb); have n3_ := Aside0.mk (Kd.R_lower (Kd.R_new' (Kd.R_new' (Kd.R_new' ho0 (Kd.R_lt zab19)) (Kd.R_lt zab18)) (Kd.R_lt zab17)) (below_size zab1)); have n4_ := Aside0.mk (blk_below (g := gb585) (o := .cells #[.int .i64 a0_0, .int .i64 a0_1, .slice A0_2 l0_2.length c0_2] 24 (0, 0)) (by (with_reducible repeat (first | refine blk_drewN ?_ _ | refine blk_drew ?_ | refine blk_alloc ?_ _)); refine blk_far ?_ NB585_607.out _; (with_reducible repeat (first | refine blk_drewN ?_ _ | refine blk_drew ?_ | refine blk_alloc ?_ _)); refine blk_far ?_ NB585_607.out _; (with_reducible repeat (first | refine blk_drewN ?_ _ | refine blk_drew ?_ | refine blk_alloc ?_ _)); refine blk_far ?_ NB585_607.out _; (with_reducible repeat (first | refine blk_drewN ?_ _ | refine blk_drew ?_ | refine blk_alloc ?_ _)); exact BK585.out) hb); have n5_ := Aside0.mk (blk_below (g := gb586) (o := .cells #[.int .i64 a1_0, .int .i64 a1_1] 26 (0, 0)) (by (with_reducible repeat (first | refine blk_drewN ?_ _ | refine blk_drew ?_ | refine blk_alloc ?_ _)); refine blk_far ?_ NB586_607.out _; (with_reducible repeat (first | refine blk_drewN ?_ _ | refine blk_drew ?_ | refine blk_alloc ?_ _)); refine blk_far ?_ NB586_607.out _; (with_reducible repeat (first | refine blk_drewN ?_ _ | refine blk_drew ?_ | refine blk_alloc ?_ _)); refine blk_far ?_ NB586_607.out _; (with_reducible repeat (first | refine blk_drewN ?_ _ | refine blk_drew ?_ | refine blk_alloc ?_ _)); exact BK586.out) hb); have n6_ := Aside0.mk (blk_below (g := gb607) (o := .cells #[.int .i64 t602, .int .i64 t603, .slice Ao41 t604.length co41] 30 (0, 0)) (by (with_reducible repeat (first | refine blk_drewN ?_ _ | refine blk_drew ?_ | refine blk_alloc ?_ _)); refine blk_put (cs := #[.int .i64 t602, .int .i64 t603, .slice none 0 0]) ?_ 2 _ rfl; (with_reducible repeat (first | refine blk_drewN ?_ _ | refine blk_drew ?_ | refine blk_alloc ?_ _)); refine blk_put (cs := #[.int .i64 t602, .int .i64 0, .slice none 0 0]) ?_ 1 _ rfl; (with_reducible repeat (first | refine blk_drewN ?_ _ | refine blk_drew ?_ | refine blk_alloc ?_ _)); refine blk_put (cs := #[.int .i64 0, .int .i64 0, .slice none 0 0]) ?_ 0 _ rfl; (with_reducible repeat (first | refine blk_drewN ?_ _ | refine blk_drew ?_ | refine blk_alloc ?_ _)); exact BK607.out) hb); have n7_ := Aside0.mk (below_step zab1 hb); clear HO592; clear HO597; clear HO606; clear BK585; clear BK586; clear BK607; clear HB; have HO592 := n0_; have HO597 := n1_; have HO606 := n2_; have HO610 := n3_; have BK585 := n4_; have BK586 := n5_; have BK607 := n6_; have HB := n7_; clear n0_ n1_ n2_ n3_ n4_ n5_ n6_ n7_; (try clear hb); (try clear hb2); (try clear hk); (try clear hi); (try clear ho0); (try clear hna_); (try clear hnb_)))
 have n0_ := Aside0.mk (Kd.R_drew HO592.out)
 have n1_ := Aside0.mk (Kd.R_drew HO597.out)
 have n2_ := Aside0.mk (Kd.R_drew HO606.out)
 have n3_ := Aside0.mk (Kd.R_drew HO610.out)
 have n4_ := Aside0.mk (blk_drew BK585.out)
 have n5_ := Aside0.mk (blk_drew BK586.out)
 have n6_ := Aside0.mk (blk_drew BK607.out)
 have n7_ := Aside0.mk (below_drew1 HB.out)
 clear HO592
 clear HO597
 clear HO606
 clear HO610
 clear BK585
 clear BK586
 clear BK607
 clear HB
 have HO592 := n0_
 have HO597 := n1_
 have HO606 := n2_
 have HO610 := n3_
 have BK585 := n4_
 have BK586 := n5_
 have BK607 := n6_
 have HB := n7_
 clear n0_ n1_ n2_ n3_ n4_ n5_ n6_ n7_
 refine start_ (n := 14) (S := fun w' => w'.cell? ⟨gb607, 0, none⟩ = some (.int .i64 t602) ∧ w'.cell? ⟨gb607, 1, none⟩ = some (.int .i64 t603) ∧ w'.cell? ⟨gb607, 2, none⟩ = some (.slice Ao41 t604.length co41) ∧ w'.cell? ⟨gb586, 0, none⟩ = some (.int .i64 a1_0) ∧ w'.cell? ⟨gb586, 1, none⟩ = some (.int .i64 a1_1)) (ds := []) #[false, false, false, false, false, false, false, false, false, false, false, false, false, false] (by kernel_rfl) rfl rfl ⟨(blk_cell BK607.out 0).trans rfl, (blk_cell BK607.out 1).trans rfl, (blk_cell BK607.out 2).trans rfl, (blk_cell BK586.out 0).trans rfl, (blk_cell BK586.out 1).trans rfl⟩ (fun hHeld => ?_); refine with_tabW laws_FnExactTurnsOfPath.tab10 laws_FnExactTurnsOfPath.bits10 (fun HT_ HW_ => ?_)
 generalize w42.drew = w43 at HO592 HO597 HO606 HO610 BK585 BK586 BK607 HB hHeld ⊢
 refine pure_ (i := 3) (N := some 46) (v := ?_) (a' := ?_) #[false, false, false, true, false, false, false, false, false, false, false, false, false, false] rfl rfl (any_of HT_.out (by kernel_rfl)) (fun _ _ _ h => h) (Or.inl ⟨by rfl, ?_⟩) ?_ ?_
 rotate_left
 ·intro w'
  go_simp
  with_reducible rfl
 rotate_left
 ·simp only [Act.put, List.setIfInBounds_toArray, List.set_cons_zero, List.set_cons_succ, i64_w, i32_w]
  rfl
 refine take_ (i := 0) (N := some 43) (v := ?_) (a' := ?_) #[true, false, false, true, false, false, false, false, false, false, false, false, false, false] rfl rfl (take_ofW HT_.out HW_.out (by kernel_rfl)) (fun _ _ _ h => h) (Or.inl ⟨by rfl, ?_⟩) hHeld ?_ ?_
 rotate_left
 ·rintro w' ⟨s0, s1, s2, s3, s4⟩
  go_simp
  with_reducible rfl
 rotate_left
 ·simp only [Act.put, List.setIfInBounds_toArray, List.set_cons_zero, List.set_cons_succ, i64_w, i32_w]
  rfl
 refine take_ (i := 1) (N := some 44) (v := ?_) (a' := ?_) #[true, true, false, true, false, false, false, false, false, false, false, false, false, false] rfl rfl (take_ofW HT_.out HW_.out (by kernel_rfl)) (fun _ _ _ h => h) (Or.inl ⟨by rfl, ?_⟩) hHeld ?_ ?_
 rotate_left
 ·rintro w' ⟨s0, s1, s2, s3, s4⟩
  go_simp
  with_reducible rfl
 rotate_left
 ·simp only [Act.put, List.setIfInBounds_toArray, List.set_cons_zero, List.set_cons_succ, i64_w, i32_w]
  rfl
 refine one_ (i := 2) (N := some 45) #[true, true, true, true, false, false, false, false, false, false, false, false, false, false] rfl rfl (one_of HT_.out (by kernel_rfl)) (by decide) (fun K hK => ?_)
 refine goes_ Try.func18 (by kernel_rfl) rfl #[.agg #[.int .i64 a1_0, .int .i64 a1_1]] (by rfl) rfl rfl zab6 ?_
 with_reducible refine (laws_toLeaper.calls a1_0 a1_1 t611 t612 _ A20.out).mono ?_
 rintro e w44 ⟨rfl, hb⟩
 refine ⟨_, rfl, ?_⟩
 have n0_ := Aside0.mk (Kd.R_below zab13 hb)
 have n1_ := Aside0.mk (Kd.R_below zab15 hb)
 have n2_ := Aside0.mk (Kd.R_below zab25 hb)
 have n3_ := Aside0.mk (Kd.R_below (by (with_reducible repeat (first | apply Kd.R_alloc | apply Kd.R_drewN | apply Kd.R_drew)); exact HO610.out) hb)
 have n4_ := Aside0.mk (blk_below (g := gb585) (o := .cells #[.int .i64 a0_0, .int .i64 a0_1, .slice A0_2 l0_2.length c0_2] 24 (0, 0)) zab2 hb)
 have n5_ := Aside0.mk (blk_below (g := gb586) (o := .cells #[.int .i64 a1_0, .int .i64 a1_1] 26 (0, 0)) zab5 hb)
 have n6_ := Aside0.mk (blk_below (g := gb607) (o := .cells #[.int .i64 t602, .int .i64 t603, .slice Ao41 t604.length co41] 30 (0, 0)) zab7 hb)
 have n7_ := Aside0.mk (below_step zab1 hb)
 clear HO592
 clear HO597
 clear HO606
 clear HO610
 clear BK585
 clear BK586
 clear BK607
 clear HB
 have HO592 := n0_
 have HO597 := n1_
 have HO606 := n2_
 have HO610 := n3_
 have BK585 := n4_
 have BK586 := n5_
 have BK607 := n6_
 have HB := n7_
 clear n0_ n1_ n2_ n3_ n4_ n5_ n6_ n7_
 (try clear hb)
 (try clear hb2)
 (try clear hk)
 (try clear hi)
 (try clear hna_)
 (try clear hnb_)
 obtain ⟨Ao45, co45, eo45⟩ := Kd.R_slice HO610.out
 (first | subst eo45 | (injection eo45 with f1_ f2_ f3_; have f4_ := f1_.symm; have f5_ := f3_.symm; clear f1_ f2_ f3_; subst f4_; subst f5_))
 refine hK.out _ _ ⟨(blk_cell BK607.out 0).trans rfl, (blk_cell BK607.out 1).trans rfl, (blk_cell BK607.out 2).trans rfl, (blk_cell BK586.out 0).trans rfl, (blk_cell BK586.out 1).trans rfl⟩ (fun hHeld => ?_)
 clear hK K
 refine norm_ (a' := ?_) ?_ ?_
 rotate_left
 ·show Act.put _ (some 45) _ = _
  simp only [Act.put, List.setIfInBounds_toArray, List.set_cons_zero, List.set_cons_succ, i64_w, i32_w]
  rfl
 refine one_ (i := 4) (N := some 47) #[true, true, true, true, true, false, false, false, false, false, false, false, false, false] rfl rfl (one_of HT_.out (by kernel_rfl)) (by decide) (fun K hK => ?_)
 refine goes_ Try.func28 (by kernel_rfl) rfl #[.agg #[.int .i64 t602, .int .i64 t603, .slice Ao41 t604.length co41], .agg #[.int .i64 t611, .int .i64 t612], .slice Ao45 t608.length co45] (by rfl) rfl rfl zab6 ?_
 with_reducible refine (impl_TurnsOfPath.calls k t602 t603 _ _ t604 t611 t612 _ _ t608 t613 t614 t615 t616 _ ?side1 ?side2 ?side3 ?side4 A21.out).mono ?_
 (case side1 => repeat (first | exact (Kd.R_reads' HO606.out).2.2 | (with_reducible refine Kd.C_alloc ?_ _) | (with_reducible refine Kd.C_drewN ?_ _) | (with_reducible refine Kd.C_drew ?_)))
 (case side2 => exact (Kd.R_reads' HO606.out).2.1)
 (case side3 => repeat (first | exact (Kd.R_reads' HO610.out).2.2 | (with_reducible refine Kd.C_alloc ?_ _) | (with_reducible refine Kd.C_drewN ?_ _) | (with_reducible refine Kd.C_drew ?_)))
 (case side4 => exact (Kd.R_reads' HO610.out).2.1)
 rintro e w46 ⟨rfl, hb⟩
 refine ⟨_, rfl, ?_⟩
 have n0_ := Aside0.mk (Kd.R_below zab13 hb)
 have n1_ := Aside0.mk (Kd.R_below zab15 hb)
 have n2_ := Aside0.mk (Kd.R_below zab25 hb)
 have n3_ := Aside0.mk (Kd.R_below (by (with_reducible repeat (first | apply Kd.R_alloc | apply Kd.R_drewN | apply Kd.R_drew)); exact HO610.out) hb)
 have n4_ := Aside0.mk (blk_below (g := gb585) (o := .cells #[.int .i64 a0_0, .int .i64 a0_1, .slice A0_2 l0_2.length c0_2] 24 (0, 0)) zab2 hb)
 have n5_ := Aside0.mk (blk_below (g := gb586) (o := .cells #[.int .i64 a1_0, .int .i64 a1_1] 26 (0, 0)) zab5 hb)
 have n6_ := Aside0.mk (blk_below (g := gb607) (o := .cells #[.int .i64 t602, .int .i64 t603, .slice Ao41 t604.length co41] 30 (0, 0)) zab7 hb)
 have n7_ := Aside0.mk (below_step zab1 hb)
 clear HO592
 clear HO597
 clear HO606
 clear HO610
 clear BK585
 clear BK586
 clear BK607
 clear HB
 have HO592 := n0_
 have HO597 := n1_
 have HO606 := n2_
 have HO610 := n3_
 have BK585 := n4_
 have BK586 := n5_
 have BK607 := n6_
 have HB := n7_
 clear n0_ n1_ n2_ n3_ n4_ n5_ n6_ n7_
 (try clear hb)
 (try clear hb2)
 (try clear hk)
 (try clear hi)
 (try clear hna_)
 (try clear hnb_)
 refine hK.out _ _ ⟨(blk_cell BK607.out 0).trans rfl, (blk_cell BK607.out 1).trans rfl, (blk_cell BK607.out 2).trans rfl, (blk_cell BK586.out 0).trans rfl, (blk_cell BK586.out 1).trans rfl⟩ (fun hHeld => ?_)
 clear hK K
 refine norm_ (a' := ?_) ?_ ?_
 rotate_left
 ·show Act.put _ (some 47) _ = _
  simp only [Act.put, List.setIfInBounds_toArray, List.set_cons_zero, List.set_cons_succ, i64_w, i32_w]
  rfl
 refine pure_ (i := 5) (N := some 42) (v := ?_) (a' := ?_) #[true, true, true, true, true, true, false, false, false, false, false, false, false, false] rfl rfl (any_of HT_.out (by kernel_rfl)) (fun _ _ _ h => h) (Or.inl ⟨by rfl, ?_⟩) ?_ ?_
 rotate_left
 ·intro w'
  go_simp
  with_reducible rfl
 rotate_left
 ·simp only [Act.put, List.setIfInBounds_toArray, List.set_cons_zero, List.set_cons_succ, i64_w, i32_w]
  rfl
 refine pure_ (i := 6) (N := some 48) (v := ?_) (a' := ?_) #[true, true, true, true, true, true, true, false, false, false, false, false, false, false] rfl rfl (any_of HT_.out (by kernel_rfl)) (fun _ _ _ h => h) (Or.inl ⟨by rfl, ?_⟩) ?_ ?_
 rotate_left
 ·intro w'
  go_simp
  with_reducible rfl
 rotate_left
 ·simp only [Act.put, List.setIfInBounds_toArray, List.set_cons_zero, List.set_cons_succ, i64_w, i32_w]
  rfl
 refine pure_ (i := 7) (N := some 49) (v := ?_) (a' := ?_) #[true, true, true, true, true, true, true, true, false, false, false, false, false, false] rfl rfl (any_of HT_.out (by kernel_rfl)) (fun _ _ _ h => h) (Or.inl ⟨by rfl, ?_⟩) ?_ ?_
 rotate_left
 ·intro w'
  go_simp
  with_reducible rfl
 rotate_left
 ·simp only [Act.put, List.setIfInBounds_toArray, List.set_cons_zero, List.set_cons_succ, i64_w, i32_w]
  rfl
 refine pure_ (i := 8) (N := some 50) (v := ?_) (a' := ?_) #[true, true, true, true, true, true, true, true, true, false, false, false, false, false] rfl rfl (any_of HT_.out (by kernel_rfl)) (fun _ _ _ h => h) (Or.inl ⟨by rfl, ?_⟩) ?_ ?_
 rotate_left
 ·intro w'
  go_simp
  with_reducible rfl
 rotate_left
 ·simp only [Act.put, List.setIfInBounds_toArray, List.set_cons_zero, List.set_cons_succ, i64_w, i32_w]
  rfl
 refine pure_ (i := 9) (N := some 51) (v := ?_) (a' := ?_) #[true, true, true, true, true, true, true, true, true, true, false, false, false, false] rfl rfl (any_of HT_.out (by kernel_rfl)) (fun _ _ _ h => h) (Or.inl ⟨by rfl, ?_⟩) ?_ ?_
 rotate_left
 ·intro w'
  go_simp
  with_reducible rfl
 rotate_left
 ·simp only [Act.put, List.setIfInBounds_toArray, List.set_cons_zero, List.set_cons_succ, i64_w, i32_w]
  rfl
 refine pure_ (i := 10) (N := some 14) (v := ?_) (a' := ?_) #[true, true, true, true, true, true, true, true, true, true, true, false, false, false] rfl rfl (any_of HT_.out (by kernel_rfl)) (fun _ _ _ h => h) (Or.inl ⟨by rfl, ?_⟩) ?_ ?_
 rotate_left
 ·intro w'
  go_simp
  with_reducible rfl
 rotate_left
 ·simp only [Act.put, List.setIfInBounds_toArray, List.set_cons_zero, List.set_cons_succ, i64_w, i32_w]
  rfl
 refine pure_ (i := 11) (N := some 15) (v := ?_) (a' := ?_) #[true, true, true, true, true, true, true, true, true, true, true, true, false, false] rfl rfl (any_of HT_.out (by kernel_rfl)) (fun _ _ _ h => h) (Or.inl ⟨by rfl, ?_⟩) ?_ ?_
 rotate_left
 ·intro w'
  go_simp
  with_reducible rfl
 rotate_left
 ·simp only [Act.put, List.setIfInBounds_toArray, List.set_cons_zero, List.set_cons_succ, i64_w, i32_w]
  rfl
 refine pure_ (i := 12) (N := some 16) (v := ?_) (a' := ?_) #[true, true, true, true, true, true, true, true, true, true, true, true, true, false] rfl rfl (any_of HT_.out (by kernel_rfl)) (fun _ _ _ h => h) (Or.inl ⟨by rfl, ?_⟩) ?_ ?_
 rotate_left
 ·intro w'
  go_simp
  with_reducible rfl
 rotate_left
 ·simp only [Act.put, List.setIfInBounds_toArray, List.set_cons_zero, List.set_cons_succ, i64_w, i32_w]
  rfl
 refine pure_ (i := 13) (N := some 17) (v := ?_) (a' := ?_) #[true, true, true, true, true, true, true, true, true, true, true, true, true, true] rfl rfl (any_of HT_.out (by kernel_rfl)) (fun _ _ _ h => h) (Or.inl ⟨by rfl, ?_⟩) ?_ ?_
 rotate_left
 ·intro w'
  go_simp
  with_reducible rfl
 rotate_left
 ·simp only [Act.put, List.setIfInBounds_toArray, List.set_cons_zero, List.set_cons_succ, i64_w, i32_w]
  rfl
 refine done_ (done_of HT_.out (by kernel_rfl)) ?_
 go_upto_region 11 with (fail)
 go_cut [69] (fun v69 wc => ∃ (kq : Nat) (x69_21 : Bool), v69 = .bool x69_21 ∧ Aside0 (laws_FnExactTurnsOfPath.j0 kq l2 t608 x69_21 a0_0 a0_1 l0_2 t602 t603 t604 = some r) ∧ Aside0 (kq ≤ k) ∧ Aside0 (Kd.R (Kd.int .i64) 3 wc w.heap.size (fun k_ => some k_ ≠ ((.slice Ao41 t604.length co41) : Value).ownBlock) (.slice Ao45 t608.length co45) t608) ∧ Aside0 (Kd.R (Kd.int .i64) 3 wc w.heap.size (fun k_ => some k_ ≠ ((.slice Ao45 t608.length co45) : Value).ownBlock) (.slice Ao41 t604.length co41) t604) ∧ Aside0 (wc.heap[gb585]? = some (.cells #[.int .i64 a0_0, .int .i64 a0_1, (.slice A0_2 l0_2.length c0_2)] 24 (0, 0))) ∧ Aside0 (wc.heap[gb586]? = some (.cells #[.int .i64 a1_0, .int .i64 a1_1] 26 (0, 0))) ∧ Aside0 (wc.heap[gb607]? = some (.cells #[.int .i64 t602, .int .i64 t603, (.slice Ao41 t604.length co41)] 30 (0, 0))) ∧ Aside0 (Below w.heap.size w wc))
 case first =>
  have H := HC22.out
  clear HC22
  by_cases c47 : t613 = t598
  rotate_left
  ·rw [if_neg c47] at H
   have c47b0 : (t613 == t598) = false := beq_eq_false_iff_ne.mpr c47
   have c47b1 : (t613 != t598) = true := bne_iff_ne.mpr c47
   (first | rw [c47b0] | (simp only [i64_w, i32_w]; rw [c47b0]) | skip)
   have H' := Aside0.mk H
   clear H
   go_wp2
   go_meet
   case rel => exact ⟨_, (true), zab28, H', ⟨by first | omega | exact Nat.le_refl _⟩, ⟨zab20⟩, ⟨zab21⟩, ⟨zab2⟩, ⟨zab5⟩, ⟨zab7⟩, ⟨zab1⟩⟩
  rw [if_pos c47] at H
  have c47b0 : (t613 == t598) = true := beq_iff_eq.mpr c47
  have c47b1 : (t613 != t598) = false := bne_eq_false_iff_eq.mpr c47
  clear c47
  (first | rw [c47b0] | (simp only [i64_w, i32_w]; rw [c47b0]) | skip)
  by_cases c48 : t614 = t599
  rotate_left
  ·rw [if_neg c48] at H
   have c48b0 : (t614 == t599) = false := beq_eq_false_iff_ne.mpr c48
   have c48b1 : (t614 != t599) = true := bne_iff_ne.mpr c48
   have H' := Aside0.mk H
   clear H
   go_wp2
   go_meet
   case rel => exact ⟨_, (true), zab28, H', ⟨by first | omega | exact Nat.le_refl _⟩, ⟨zab20⟩, ⟨zab21⟩, ⟨zab2⟩, ⟨zab5⟩, ⟨zab7⟩, ⟨zab1⟩⟩
  rw [if_pos c48] at H
  have c48b0 : (t614 == t599) = true := beq_iff_eq.mpr c48
  have c48b1 : (t614 != t599) = false := bne_eq_false_iff_eq.mpr c48
  clear c48
  by_cases c49 : t615 = t600
  rotate_left
  ·rw [if_neg c49] at H
   have c49b0 : (t615 == t600) = false := beq_eq_false_iff_ne.mpr c49
   have c49b1 : (t615 != t600) = true := bne_iff_ne.mpr c49
   have H' := Aside0.mk H
   clear H
   go_wp2
   go_meet
   case rel => exact ⟨_, (true), zab28, H', ⟨by first | omega | exact Nat.le_refl _⟩, ⟨zab20⟩, ⟨zab21⟩, ⟨zab2⟩, ⟨zab5⟩, ⟨zab7⟩, ⟨zab1⟩⟩
  rw [if_pos c49] at H
  have c49b0 : (t615 == t600) = true := beq_iff_eq.mpr c49
  have c49b1 : (t615 != t600) = false := bne_eq_false_iff_eq.mpr c49
  clear c49
  have H' := Aside0.mk H
  clear H
  go_wp2
  go_meet
  case rel => exact ⟨_, ((t616 != t601)), zab28, H', ⟨by first | omega | exact Nat.le_refl _⟩, ⟨zab20⟩, ⟨zab21⟩, ⟨zab2⟩, ⟨zab5⟩, ⟨zab7⟩, ⟨zab1⟩⟩
 case rest =>
  clear HC22
  try clear c1; try clear c2; try clear p2; try clear c3; try clear c4; try clear c4b0; try clear c4b1; try clear c6; try clear c8; try clear c8b0; try clear c11; try clear c15; try clear c17; try clear c18; try clear c19; try clear c25; try clear c27; try clear c28; try clear c38; try clear c39; try clear c47; try clear c47b0; try clear c47b1; try clear c48; try clear c48b0; try clear c48b1; try clear c49; try clear c49b0; try clear c49b1; try clear hcz12_0; try clear hcz12_1; try clear hcz12_2; try clear hcz26_0; try clear hcz26_1; try clear hcz26_2; try clear hcz35_0; try clear hcz35_1; try clear hcz35_2
  try clear hcz40_0; try clear hcz40_1; try clear hcz40_2; try clear hfz12_0; try clear hfz12_1; try clear hfz12_2; try clear hfz26_0; try clear hfz26_1; try clear hfz26_2; try clear hfz35_0; try clear hfz35_1; try clear hfz35_2; try clear hfz40_0; try clear hfz40_1; try clear hfz40_2
  obtain ⟨kq, x69_21, rfl, HA, HJ21, HO_13, HO_608002, BK585, BK586, BK607, HB⟩ := hcut
  cases kq with
  | zero => exact absurd HA.out (by simp [laws_FnExactTurnsOfPath.j0])
  | succ kj21 =>
   have H := HA.out
   clear HA
   simp only [laws_FnExactTurnsOfPath.j0] at H
   by_cases c50 : x69_21 = true
   ·subst c50
    have H1 : (some false) = some r := by rw [if_pos rfl] at H; exact H
    clear H
    have H := H1
    clear H1
    obtain rfl := Option.some.inj H
    go_wp2
    go_ret
    exact ⟨zab16, zab1⟩
   replace c50 := Bool.eq_false_iff.mpr c50
   subst c50
   have H1 : ((laws_toBoard.f kj21 a0_0 a0_1 l0_2).bind fun bt617 => ((laws_eqBoard.f kj21 t602 t603 t604 bt617.1 bt617.2.1 bt617.2.2).bind fun t622 => (if t622 = true then ((laws_toIntS.f kj21 l2).bind fun t623 => ((laws_eqIntS.f kj21 t608 t623).bind fun t626 => (if t626 = true then (some true) else (some false)))) else (some false)))) = some r := by rw [if_neg (show ¬ (false = true) by decide)] at H; exact H
   clear H
   have H := H1
   clear H1
   replace H := Option.bind_eq_some_iff.mp H
   obtain ⟨⟨t617, t618, t619⟩, A510, H⟩ := H
   replace H : ((laws_eqBoard.f kj21 t602 t603 t604 t617 t618 t619).bind fun t622 => (if t622 = true then ((laws_toIntS.f kj21 l2).bind fun t623 => ((laws_eqIntS.f kj21 t608 t623).bind fun t626 => (if t626 = true then (some true) else (some false)))) else (some false))) = some r := H
   have A51 := Aside0.mk A510
   clear A510
   replace H := Option.bind_eq_some_iff.mp H
   obtain ⟨t622, A520, H⟩ := H
   replace H : (if t622 = true then ((laws_toIntS.f kj21 l2).bind fun t623 => ((laws_eqIntS.f kj21 t608 t623).bind fun t626 => (if t626 = true then (some true) else (some false)))) else (some false)) = some r := H
   have A52 := Aside0.mk A520
   clear A520
   by_cases c53 : t622 = true
   rotate_left
   ·replace c53 := Bool.eq_false_iff.mpr c53
    subst c53
    have H1 : (some false) = some r := by rw [if_neg (show ¬ (false = true) by decide)] at H; exact H
    clear H
    have H := H1
    clear H1
    obtain rfl := Option.some.inj H
    try go_wp2
    have n0_ := Aside0.mk (Kd.R_drew HO_13.out)
    have n1_ := Aside0.mk (Kd.R_drew HO_608002.out)
    have n2_ := Aside0.mk (blk_drew BK585.out)
    have n3_ := Aside0.mk (blk_drew BK586.out)
    have n4_ := Aside0.mk (blk_drew BK607.out)
    have n5_ := Aside0.mk (below_drew1 HB.out)
    clear HO_13
    clear HO_608002
    clear BK585
    clear BK586
    clear BK607
    clear HB
    have HO_13 := n0_
    have HO_608002 := n1_
    have BK585 := n2_
    have BK586 := n3_
    have BK607 := n4_
    have HB := n5_
    clear n0_ n1_ n2_ n3_ n4_ n5_
    refine start_ (n := 5) (S := fun w' => w'.cell? ⟨gb607, 0, none⟩ = some (.int .i64 t602) ∧ w'.cell? ⟨gb607, 1, none⟩ = some (.int .i64 t603) ∧ w'.cell? ⟨gb607, 2, none⟩ = some (.slice Ao41 t604.length co41) ∧ w'.cell? ⟨gb585, 0, none⟩ = some (.int .i64 a0_0) ∧ w'.cell? ⟨gb585, 1, none⟩ = some (.int .i64 a0_1) ∧ w'.cell? ⟨gb585, 2, none⟩ = some (.slice A0_2 l0_2.length c0_2)) (ds := []) #[false, false, false, false, false] (by kernel_rfl) rfl rfl ⟨(blk_cell BK607.out 0).trans rfl, (blk_cell BK607.out 1).trans rfl, (blk_cell BK607.out 2).trans rfl, (blk_cell BK585.out 0).trans rfl, (blk_cell BK585.out 1).trans rfl, (blk_cell BK585.out 2).trans rfl⟩ (fun hHeld => ?_)
    generalize wc.drew = w69 at HO_13 HO_608002 BK585 BK586 BK607 HB hHeld ⊢
    refine take_ (i := 0) (N := some 70) (v := ?_) (a' := ?_) #[true, false, false, false, false] rfl rfl (by kernel_rfl) (fun _ _ _ h => h) (Or.inl ⟨by rfl, ?_⟩) hHeld ?_ ?_
    rotate_left
    ·rintro w' ⟨s0, s1, s2, s3, s4, s5⟩
     go_simp
     with_reducible rfl
    rotate_left
    ·simp only [Act.put, List.setIfInBounds_toArray, List.set_cons_zero, List.set_cons_succ, i64_w, i32_w]
     rfl
    refine take_ (i := 1) (N := some 71) (v := ?_) (a' := ?_) #[true, true, false, false, false] rfl rfl (by kernel_rfl) (fun _ _ _ h => h) (Or.inl ⟨by rfl, ?_⟩) hHeld ?_ ?_
    rotate_left
    ·rintro w' ⟨s0, s1, s2, s3, s4, s5⟩
     go_simp
     with_reducible rfl
    rotate_left
    ·simp only [Act.put, List.setIfInBounds_toArray, List.set_cons_zero, List.set_cons_succ, i64_w, i32_w]
     rfl
    refine one_ (i := 2) (N := some 72) #[true, true, true, false, false] rfl rfl (by kernel_rfl) (by decide) (fun K hK => ?_)
    refine goes_ Try.func17 (by kernel_rfl) rfl #[.agg #[.int .i64 a0_0, .int .i64 a0_1, .slice A0_2 l0_2.length c0_2]] (by rfl) rfl rfl zab6 ?_
    with_reducible refine (laws_toBoard.calls kj21 a0_0 a0_1 _ _ l0_2 t617 t618 t619 _ ?side1 ?side2 A51.out).mono ?_
    (case side1 => exact zab12)
    (case side2 => exact HC0_2.out)
    rintro e w70 ⟨v620, rfl, ho0, hb⟩
    refine ⟨_, rfl, ?_⟩
    have n0_ := Aside0.mk (Kd.R_elder' zab10 (Kd.R_base ho0) hb)
    have n1_ := Aside0.mk (Kd.R_elder' zab9 (Kd.R_base ho0) hb)
    have n2_ := Aside0.mk (Kd.R_lower (Kd.R_new' (Kd.R_new' ho0 (Kd.R_lt zab10)) (Kd.R_lt zab9)) (below_size zab1))
    have n3_ := Aside0.mk (blk_below (g := gb585) (o := .cells #[.int .i64 a0_0, .int .i64 a0_1, .slice A0_2 l0_2.length c0_2] 24 (0, 0)) zab2 hb)
    have n4_ := Aside0.mk (blk_below (g := gb586) (o := .cells #[.int .i64 a1_0, .int .i64 a1_1] 26 (0, 0)) zab5 hb)
    have n5_ := Aside0.mk (blk_below (g := gb607) (o := .cells #[.int .i64 t602, .int .i64 t603, .slice Ao41 t604.length co41] 30 (0, 0)) zab7 hb)
    have n6_ := Aside0.mk (below_step zab1 hb)
    clear HO_13
    clear HO_608002
    clear BK585
    clear BK586
    clear BK607
    clear HB
    have HO_13 := n0_
    have HO_608002 := n1_
    have HO621 := n2_
    have BK585 := n3_
    have BK586 := n4_
    have BK607 := n5_
    have HB := n6_
    clear n0_ n1_ n2_ n3_ n4_ n5_ n6_
    (try clear hb)
    (try clear hb2)
    (try clear hk)
    (try clear hi)
    (try clear ho0)
    (try clear hna_)
    (try clear hnb_)
    obtain ⟨Ao71, co71, eo71⟩ := Kd.R_slice HO621.out
    (first | subst eo71 | (injection eo71 with f1_ f2_ f3_; have f4_ := f1_.symm; have f5_ := f3_.symm; clear f1_ f2_ f3_; subst f4_; subst f5_))
    refine hK.out _ _ ⟨(blk_cell BK607.out 0).trans rfl, (blk_cell BK607.out 1).trans rfl, (blk_cell BK607.out 2).trans rfl, (blk_cell BK585.out 0).trans rfl, (blk_cell BK585.out 1).trans rfl, (blk_cell BK585.out 2).trans rfl⟩ (fun hHeld => ?_)
    clear hK K
    refine norm_ (a' := ?_) ?_ ?_
    rotate_left
    ·show Act.put _ (some 72) _ = _
     simp only [Act.put, List.setIfInBounds_toArray, List.set_cons_zero, List.set_cons_succ, i64_w, i32_w]
     rfl
    refine one_ (i := 3) (N := some 73) #[true, true, true, true, false] rfl rfl (by kernel_rfl) (by decide) (fun K hK => ?_)
    refine goes_ Try.func21 (by kernel_rfl) rfl #[.agg #[.int .i64 t602, .int .i64 t603, .slice Ao41 t604.length co41], .agg #[.int .i64 t617, .int .i64 t618, .slice Ao71 t619.length co71]] (by rfl) rfl rfl zab6 ?_
    with_reducible refine (laws_eqBoard.calls kj21 t602 t603 _ _ t604 t617 t618 _ _ t619 false _ ?side1 ?side2 ?side3 ?side4 A52.out).mono ?_
    (case side1 => exact zab22)
    (case side2 => exact (Kd.R_reads' HO_608002.out).2.1)
    (case side3 => exact zab23)
    (case side4 => exact (Kd.R_reads' HO621.out).2.1)
    rintro e w72 ⟨rfl, hb⟩
    refine ⟨_, rfl, ?_⟩
    have n0_ := Aside0.mk (Kd.R_below zab10 hb)
    have n1_ := Aside0.mk (Kd.R_below zab9 hb)
    have n2_ := Aside0.mk (Kd.R_below zab14 hb)
    have n3_ := Aside0.mk (blk_below (g := gb585) (o := .cells #[.int .i64 a0_0, .int .i64 a0_1, .slice A0_2 l0_2.length c0_2] 24 (0, 0)) zab2 hb)
    have n4_ := Aside0.mk (blk_below (g := gb586) (o := .cells #[.int .i64 a1_0, .int .i64 a1_1] 26 (0, 0)) zab5 hb)
    have n5_ := Aside0.mk (blk_below (g := gb607) (o := .cells #[.int .i64 t602, .int .i64 t603, .slice Ao41 t604.length co41] 30 (0, 0)) zab7 hb)
    have n6_ := Aside0.mk (below_step zab1 hb)
    clear HO_13
    clear HO_608002
    clear HO621
    clear BK585
    clear BK586
    clear BK607
    clear HB
    have HO_13 := n0_
    have HO_608002 := n1_
    have HO621 := n2_
    have BK585 := n3_
    have BK586 := n4_
    have BK607 := n5_
    have HB := n6_
    clear n0_ n1_ n2_ n3_ n4_ n5_ n6_
    (try clear hb)
    (try clear hb2)
    (try clear hk)
    (try clear hi)
    (try clear hna_)
    (try clear hnb_)
    refine hK.out _ _ ⟨(blk_cell BK607.out 0).trans rfl, (blk_cell BK607.out 1).trans rfl, (blk_cell BK607.out 2).trans rfl, (blk_cell BK585.out 0).trans rfl, (blk_cell BK585.out 1).trans rfl, (blk_cell BK585.out 2).trans rfl⟩ (fun hHeld => ?_)
    clear hK K
    refine norm_ (a' := ?_) ?_ ?_
    rotate_left
    ·show Act.put _ (some 73) _ = _
     simp only [Act.put, List.setIfInBounds_toArray, List.set_cons_zero, List.set_cons_succ, i64_w, i32_w]
     rfl
    refine pure_ (i := 4) (N := some 74) (v := ?_) (a' := ?_) #[true, true, true, true, true] rfl rfl (by kernel_rfl) (fun _ _ _ h => h) (Or.inl ⟨by rfl, ?_⟩) ?_ ?_
    rotate_left
    ·intro w'
     go_simp
     with_reducible rfl
    rotate_left
    ·simp only [Act.put, List.setIfInBounds_toArray, List.set_cons_zero, List.set_cons_succ, i64_w, i32_w]
     rfl
    refine done_ (by kernel_rfl) ?_
    try go_wp2
    go_ret
    exact ⟨zab16, zab1⟩
   subst c53
   have H1 : ((laws_toIntS.f kj21 l2).bind fun t623 => ((laws_eqIntS.f kj21 t608 t623).bind fun t626 => (if t626 = true then (some true) else (some false)))) = some r := by rw [if_pos rfl] at H; exact H
   clear H
   have H := H1
   clear H1
   replace H := Option.bind_eq_some_iff.mp H
   obtain ⟨t623, A540, H⟩ := H
   replace H : ((laws_eqIntS.f kj21 t608 t623).bind fun t626 => (if t626 = true then (some true) else (some false))) = some r := H
   have A54 := Aside0.mk A540
   clear A540
   replace H := Option.bind_eq_some_iff.mp H
   obtain ⟨t626, A550, H⟩ := H
   replace H : (if t626 = true then (some true) else (some false)) = some r := H
   have A55 := Aside0.mk A550
   clear A550
   by_cases c56 : t626 = true
   ·subst c56
    have H1 : (some true) = some r := by rw [if_pos rfl] at H; exact H
    clear H
    have H := H1
    clear H1
    obtain rfl := Option.some.inj H
    try go_wp2
    have n0_ := Aside0.mk (Kd.R_drew HO_13.out)
    have n1_ := Aside0.mk (Kd.R_drew HO_608002.out)
    have n2_ := Aside0.mk (blk_drew BK585.out)
    have n3_ := Aside0.mk (blk_drew BK586.out)
    have n4_ := Aside0.mk (blk_drew BK607.out)
    have n5_ := Aside0.mk (below_drew1 HB.out)
    clear HO_13
    clear HO_608002
    clear BK585
    clear BK586
    clear BK607
    clear HB
    have HO_13 := n0_
    have HO_608002 := n1_
    have BK585 := n2_
    have BK586 := n3_
    have BK607 := n4_
    have HB := n5_
    clear n0_ n1_ n2_ n3_ n4_ n5_
    refine start_ (n := 5) (S := fun w' => w'.cell? ⟨gb607, 0, none⟩ = some (.int .i64 t602) ∧ w'.cell? ⟨gb607, 1, none⟩ = some (.int .i64 t603) ∧ w'.cell? ⟨gb607, 2, none⟩ = some (.slice Ao41 t604.length co41) ∧ w'.cell? ⟨gb585, 0, none⟩ = some (.int .i64 a0_0) ∧ w'.cell? ⟨gb585, 1, none⟩ = some (.int .i64 a0_1) ∧ w'.cell? ⟨gb585, 2, none⟩ = some (.slice A0_2 l0_2.length c0_2)) (ds := []) #[false, false, false, false, false] (by kernel_rfl) rfl rfl ⟨(blk_cell BK607.out 0).trans rfl, (blk_cell BK607.out 1).trans rfl, (blk_cell BK607.out 2).trans rfl, (blk_cell BK585.out 0).trans rfl, (blk_cell BK585.out 1).trans rfl, (blk_cell BK585.out 2).trans rfl⟩ (fun hHeld => ?_)
    generalize wc.drew = w57 at HO_13 HO_608002 BK585 BK586 BK607 HB hHeld ⊢
    refine take_ (i := 0) (N := some 70) (v := ?_) (a' := ?_) #[true, false, false, false, false] rfl rfl (by kernel_rfl) (fun _ _ _ h => h) (Or.inl ⟨by rfl, ?_⟩) hHeld ?_ ?_
    rotate_left
    ·rintro w' ⟨s0, s1, s2, s3, s4, s5⟩
     go_simp
     with_reducible rfl
    rotate_left
    ·simp only [Act.put, List.setIfInBounds_toArray, List.set_cons_zero, List.set_cons_succ, i64_w, i32_w]
     rfl
    refine take_ (i := 1) (N := some 71) (v := ?_) (a' := ?_) #[true, true, false, false, false] rfl rfl (by kernel_rfl) (fun _ _ _ h => h) (Or.inl ⟨by rfl, ?_⟩) hHeld ?_ ?_
    rotate_left
    ·rintro w' ⟨s0, s1, s2, s3, s4, s5⟩
     go_simp
     with_reducible rfl
    rotate_left
    ·simp only [Act.put, List.setIfInBounds_toArray, List.set_cons_zero, List.set_cons_succ, i64_w, i32_w]
     rfl
    refine one_ (i := 2) (N := some 72) #[true, true, true, false, false] rfl rfl (by kernel_rfl) (by decide) (fun K hK => ?_)
    refine goes_ Try.func17 (by kernel_rfl) rfl #[.agg #[.int .i64 a0_0, .int .i64 a0_1, .slice A0_2 l0_2.length c0_2]] (by rfl) rfl rfl zab6 ?_
    with_reducible refine (laws_toBoard.calls kj21 a0_0 a0_1 _ _ l0_2 t617 t618 t619 _ ?side1 ?side2 A51.out).mono ?_
    (case side1 => exact zab12)
    (case side2 => exact HC0_2.out)
    rintro e w58 ⟨v620, rfl, ho0, hb⟩
    refine ⟨_, rfl, ?_⟩
    have n0_ := Aside0.mk (Kd.R_elder' zab10 (Kd.R_base ho0) hb)
    have n1_ := Aside0.mk (Kd.R_elder' zab9 (Kd.R_base ho0) hb)
    have n2_ := Aside0.mk (Kd.R_lower (Kd.R_new' (Kd.R_new' ho0 (Kd.R_lt zab10)) (Kd.R_lt zab9)) (below_size zab1))
    have n3_ := Aside0.mk (blk_below (g := gb585) (o := .cells #[.int .i64 a0_0, .int .i64 a0_1, .slice A0_2 l0_2.length c0_2] 24 (0, 0)) zab2 hb)
    have n4_ := Aside0.mk (blk_below (g := gb586) (o := .cells #[.int .i64 a1_0, .int .i64 a1_1] 26 (0, 0)) zab5 hb)
    have n5_ := Aside0.mk (blk_below (g := gb607) (o := .cells #[.int .i64 t602, .int .i64 t603, .slice Ao41 t604.length co41] 30 (0, 0)) zab7 hb)
    have n6_ := Aside0.mk (below_step zab1 hb)
    clear HO_13
    clear HO_608002
    clear BK585
    clear BK586
    clear BK607
    clear HB
    have HO_13 := n0_
    have HO_608002 := n1_
    have HO621 := n2_
    have BK585 := n3_
    have BK586 := n4_
    have BK607 := n5_
    have HB := n6_
    clear n0_ n1_ n2_ n3_ n4_ n5_ n6_
    (try clear hb)
    (try clear hb2)
    (try clear hk)
    (try clear hi)
    (try clear ho0)
    (try clear hna_)
    (try clear hnb_)
    obtain ⟨Ao59, co59, eo59⟩ := Kd.R_slice HO621.out
    (first | subst eo59 | (injection eo59 with f1_ f2_ f3_; have f4_ := f1_.symm; have f5_ := f3_.symm; clear f1_ f2_ f3_; subst f4_; subst f5_))
    refine hK.out _ _ ⟨(blk_cell BK607.out 0).trans rfl, (blk_cell BK607.out 1).trans rfl, (blk_cell BK607.out 2).trans rfl, (blk_cell BK585.out 0).trans rfl, (blk_cell BK585.out 1).trans rfl, (blk_cell BK585.out 2).trans rfl⟩ (fun hHeld => ?_)
    clear hK K
    refine norm_ (a' := ?_) ?_ ?_
    rotate_left
    ·show Act.put _ (some 72) _ = _
     simp only [Act.put, List.setIfInBounds_toArray, List.set_cons_zero, List.set_cons_succ, i64_w, i32_w]
     rfl
    refine one_ (i := 3) (N := some 73) #[true, true, true, true, false] rfl rfl (by kernel_rfl) (by decide) (fun K hK => ?_)
    refine goes_ Try.func21 (by kernel_rfl) rfl #[.agg #[.int .i64 t602, .int .i64 t603, .slice Ao41 t604.length co41], .agg #[.int .i64 t617, .int .i64 t618, .slice Ao59 t619.length co59]] (by rfl) rfl rfl zab6 ?_
    with_reducible refine (laws_eqBoard.calls kj21 t602 t603 _ _ t604 t617 t618 _ _ t619 true _ ?side1 ?side2 ?side3 ?side4 A52.out).mono ?_
    (case side1 => exact zab22)
    (case side2 => exact (Kd.R_reads' HO_608002.out).2.1)
    (case side3 => exact zab23)
    (case side4 => exact (Kd.R_reads' HO621.out).2.1)
    rintro e w60 ⟨rfl, hb⟩
    refine ⟨_, rfl, ?_⟩
    have n0_ := Aside0.mk (Kd.R_below zab10 hb)
    have n1_ := Aside0.mk (Kd.R_below zab9 hb)
    have n2_ := Aside0.mk (Kd.R_below zab14 hb)
    have n3_ := Aside0.mk (blk_below (g := gb585) (o := .cells #[.int .i64 a0_0, .int .i64 a0_1, .slice A0_2 l0_2.length c0_2] 24 (0, 0)) zab2 hb)
    have n4_ := Aside0.mk (blk_below (g := gb586) (o := .cells #[.int .i64 a1_0, .int .i64 a1_1] 26 (0, 0)) zab5 hb)
    have n5_ := Aside0.mk (blk_below (g := gb607) (o := .cells #[.int .i64 t602, .int .i64 t603, .slice Ao41 t604.length co41] 30 (0, 0)) zab7 hb)
    have n6_ := Aside0.mk (below_step zab1 hb)
    clear HO_13
    clear HO_608002
    clear HO621
    clear BK585
    clear BK586
    clear BK607
    clear HB
    have HO_13 := n0_
    have HO_608002 := n1_
    have HO621 := n2_
    have BK585 := n3_
    have BK586 := n4_
    have BK607 := n5_
    have HB := n6_
    clear n0_ n1_ n2_ n3_ n4_ n5_ n6_
    (try clear hb)
    (try clear hb2)
    (try clear hk)
    (try clear hi)
    (try clear hna_)
    (try clear hnb_)
    refine hK.out _ _ ⟨(blk_cell BK607.out 0).trans rfl, (blk_cell BK607.out 1).trans rfl, (blk_cell BK607.out 2).trans rfl, (blk_cell BK585.out 0).trans rfl, (blk_cell BK585.out 1).trans rfl, (blk_cell BK585.out 2).trans rfl⟩ (fun hHeld => ?_)
    clear hK K
    refine norm_ (a' := ?_) ?_ ?_
    rotate_left
    ·show Act.put _ (some 73) _ = _
     simp only [Act.put, List.setIfInBounds_toArray, List.set_cons_zero, List.set_cons_succ, i64_w, i32_w]
     rfl
    refine pure_ (i := 4) (N := some 74) (v := ?_) (a' := ?_) #[true, true, true, true, true] rfl rfl (by kernel_rfl) (fun _ _ _ h => h) (Or.inl ⟨by rfl, ?_⟩) ?_ ?_
    rotate_left
    ·intro w'
     go_simp
     with_reducible rfl
    rotate_left
    ·simp only [Act.put, List.setIfInBounds_toArray, List.set_cons_zero, List.set_cons_succ, i64_w, i32_w]
     rfl
    refine done_ (by kernel_rfl) ?_
    try go_wp2_with (first | ((with_reducible refine gate_callee (f := 19) rfl ?_); refine goesL_ (some 77) rfl rfl Try.func19 (by kernel_rfl) rfl #[.slice A2 l2.length c2] rfl zab6 ?_; (with_reducible refine (laws_toIntS.calls kj21 _ _ l2 t623 _ ?side1 ?side2 A54.out).mono ?_); (case side1 => exact zab24); (case side2 => exact HC2.out); rintro e w61 ⟨v624, rfl, ho0, hb⟩; refine ⟨_, rfl, ?_⟩; have n0_ := Aside0.mk (Kd.R_elder' zab10 (Kd.R_base ho0) hb); have n1_ := Aside0.mk (Kd.R_elder' zab9 (Kd.R_base ho0) hb); have n2_ := Aside0.mk (Kd.R_elder' zab14 (Kd.R_base ho0) hb); have n3_ := Aside0.mk (Kd.R_lower (Kd.R_new' (Kd.R_new' (Kd.R_new' ho0 (Kd.R_lt zab10)) (Kd.R_lt zab9)) (Kd.R_lt zab14)) (below_size zab1)); have n4_ := Aside0.mk (blk_below (g := gb585) (o := .cells #[.int .i64 a0_0, .int .i64 a0_1, .slice A0_2 l0_2.length c0_2] 24 (0, 0)) zab2 hb); have n5_ := Aside0.mk (blk_below (g := gb586) (o := .cells #[.int .i64 a1_0, .int .i64 a1_1] 26 (0, 0)) zab5 hb); have n6_ := Aside0.mk (blk_below (g := gb607) (o := .cells #[.int .i64 t602, .int .i64 t603, .slice Ao41 t604.length co41] 30 (0, 0)) zab7 hb); have n7_ := Aside0.mk (below_step zab1 hb); clear HO_13; clear HO_608002; clear HO621; clear BK585; clear BK586; clear BK607; clear HB; have HO_13 := n0_; have HO_608002 := n1_; have HO621 := n2_; have HO625 := n3_; have BK585 := n4_; have BK586 := n5_; have BK607 := n6_; have HB := n7_; clear n0_ n1_ n2_ n3_ n4_ n5_ n6_ n7_; (try clear hb); (try clear hb2); (try clear hk); (try clear hi); (try clear ho0); (try clear hna_); (try clear hnb_); obtain ⟨Ao62, co62, eo62⟩ := Kd.R_slice HO625.out; subst eo62) | ((with_reducible refine gate_callee (f := 22) rfl ?_); refine goesL_ (some 78) rfl rfl Try.func22 (by kernel_rfl) rfl #[.slice Ao45 t608.length co45, .slice Ao62 t623.length co62] rfl zab6 ?_; (with_reducible refine (laws_eqIntS.calls kj21 _ _ t608 _ _ t623 true _ ?side1 ?side2 ?side3 ?side4 A55.out).mono ?_); (case side1 => exact zab26); (case side2 => exact (Kd.R_reads' HO_13.out).2.1); (case side3 => exact zab27); (case side4 => exact (Kd.R_reads' HO625.out).2.1); rintro e w' ⟨rfl, ⟨nd, rfl⟩⟩; refine ⟨_, rfl, ?_⟩))
    go_ret
    exact ⟨zab16, zab1⟩
   replace c56 := Bool.eq_false_iff.mpr c56
   subst c56
   have H1 : (some false) = some r := by rw [if_neg (show ¬ (false = true) by decide)] at H; exact H
   clear H
   have H := H1
   clear H1
   obtain rfl := Option.some.inj H
   try go_wp2
   have n0_ := Aside0.mk (Kd.R_drew HO_13.out)
   have n1_ := Aside0.mk (Kd.R_drew HO_608002.out)
   have n2_ := Aside0.mk (blk_drew BK585.out)
   have n3_ := Aside0.mk (blk_drew BK586.out)
   have n4_ := Aside0.mk (blk_drew BK607.out)
   have n5_ := Aside0.mk (below_drew1 HB.out)
   clear HO_13
   clear HO_608002
   clear BK585
   clear BK586
   clear BK607
   clear HB
   have HO_13 := n0_
   have HO_608002 := n1_
   have BK585 := n2_
   have BK586 := n3_
   have BK607 := n4_
   have HB := n5_
   clear n0_ n1_ n2_ n3_ n4_ n5_
   refine start_ (n := 5) (S := fun w' => w'.cell? ⟨gb607, 0, none⟩ = some (.int .i64 t602) ∧ w'.cell? ⟨gb607, 1, none⟩ = some (.int .i64 t603) ∧ w'.cell? ⟨gb607, 2, none⟩ = some (.slice Ao41 t604.length co41) ∧ w'.cell? ⟨gb585, 0, none⟩ = some (.int .i64 a0_0) ∧ w'.cell? ⟨gb585, 1, none⟩ = some (.int .i64 a0_1) ∧ w'.cell? ⟨gb585, 2, none⟩ = some (.slice A0_2 l0_2.length c0_2)) (ds := []) #[false, false, false, false, false] (by kernel_rfl) rfl rfl ⟨(blk_cell BK607.out 0).trans rfl, (blk_cell BK607.out 1).trans rfl, (blk_cell BK607.out 2).trans rfl, (blk_cell BK585.out 0).trans rfl, (blk_cell BK585.out 1).trans rfl, (blk_cell BK585.out 2).trans rfl⟩ (fun hHeld => ?_)
   generalize wc.drew = w63 at HO_13 HO_608002 BK585 BK586 BK607 HB hHeld ⊢
   refine take_ (i := 0) (N := some 70) (v := ?_) (a' := ?_) #[true, false, false, false, false] rfl rfl (by kernel_rfl) (fun _ _ _ h => h) (Or.inl ⟨by rfl, ?_⟩) hHeld ?_ ?_
   rotate_left
   ·rintro w' ⟨s0, s1, s2, s3, s4, s5⟩
    go_simp
    with_reducible rfl
   rotate_left
   ·simp only [Act.put, List.setIfInBounds_toArray, List.set_cons_zero, List.set_cons_succ, i64_w, i32_w]
    rfl
   refine take_ (i := 1) (N := some 71) (v := ?_) (a' := ?_) #[true, true, false, false, false] rfl rfl (by kernel_rfl) (fun _ _ _ h => h) (Or.inl ⟨by rfl, ?_⟩) hHeld ?_ ?_
   rotate_left
   ·rintro w' ⟨s0, s1, s2, s3, s4, s5⟩
    go_simp
    with_reducible rfl
   rotate_left
   ·simp only [Act.put, List.setIfInBounds_toArray, List.set_cons_zero, List.set_cons_succ, i64_w, i32_w]
    rfl
   refine one_ (i := 2) (N := some 72) #[true, true, true, false, false] rfl rfl (by kernel_rfl) (by decide) (fun K hK => ?_)
   refine goes_ Try.func17 (by kernel_rfl) rfl #[.agg #[.int .i64 a0_0, .int .i64 a0_1, .slice A0_2 l0_2.length c0_2]] (by rfl) rfl rfl zab6 ?_
   with_reducible refine (laws_toBoard.calls kj21 a0_0 a0_1 _ _ l0_2 t617 t618 t619 _ ?side1 ?side2 A51.out).mono ?_
   (case side1 => exact zab12)
   (case side2 => exact HC0_2.out)
   rintro e w64 ⟨v620, rfl, ho0, hb⟩
   refine ⟨_, rfl, ?_⟩
   have n0_ := Aside0.mk (Kd.R_elder' zab10 (Kd.R_base ho0) hb)
   have n1_ := Aside0.mk (Kd.R_elder' zab9 (Kd.R_base ho0) hb)
   have n2_ := Aside0.mk (Kd.R_lower (Kd.R_new' (Kd.R_new' ho0 (Kd.R_lt zab10)) (Kd.R_lt zab9)) (below_size zab1))
   have n3_ := Aside0.mk (blk_below (g := gb585) (o := .cells #[.int .i64 a0_0, .int .i64 a0_1, .slice A0_2 l0_2.length c0_2] 24 (0, 0)) zab2 hb)
   have n4_ := Aside0.mk (blk_below (g := gb586) (o := .cells #[.int .i64 a1_0, .int .i64 a1_1] 26 (0, 0)) zab5 hb)
   have n5_ := Aside0.mk (blk_below (g := gb607) (o := .cells #[.int .i64 t602, .int .i64 t603, .slice Ao41 t604.length co41] 30 (0, 0)) zab7 hb)
   have n6_ := Aside0.mk (below_step zab1 hb)
   clear HO_13
   clear HO_608002
   clear BK585
   clear BK586
   clear BK607
   clear HB
   have HO_13 := n0_
   have HO_608002 := n1_
   have HO621 := n2_
   have BK585 := n3_
   have BK586 := n4_
   have BK607 := n5_
   have HB := n6_
   clear n0_ n1_ n2_ n3_ n4_ n5_ n6_
   (try clear hb)
   (try clear hb2)
   (try clear hk)
   (try clear hi)
   (try clear ho0)
   (try clear hna_)
   (try clear hnb_)
   obtain ⟨Ao65, co65, eo65⟩ := Kd.R_slice HO621.out
   (first | subst eo65 | (injection eo65 with f1_ f2_ f3_; have f4_ := f1_.symm; have f5_ := f3_.symm; clear f1_ f2_ f3_; subst f4_; subst f5_))
   refine hK.out _ _ ⟨(blk_cell BK607.out 0).trans rfl, (blk_cell BK607.out 1).trans rfl, (blk_cell BK607.out 2).trans rfl, (blk_cell BK585.out 0).trans rfl, (blk_cell BK585.out 1).trans rfl, (blk_cell BK585.out 2).trans rfl⟩ (fun hHeld => ?_)
   clear hK K
   refine norm_ (a' := ?_) ?_ ?_
   rotate_left
   ·show Act.put _ (some 72) _ = _
    simp only [Act.put, List.setIfInBounds_toArray, List.set_cons_zero, List.set_cons_succ, i64_w, i32_w]
    rfl
   refine one_ (i := 3) (N := some 73) #[true, true, true, true, false] rfl rfl (by kernel_rfl) (by decide) (fun K hK => ?_)
   refine goes_ Try.func21 (by kernel_rfl) rfl #[.agg #[.int .i64 t602, .int .i64 t603, .slice Ao41 t604.length co41], .agg #[.int .i64 t617, .int .i64 t618, .slice Ao65 t619.length co65]] (by rfl) rfl rfl zab6 ?_
   with_reducible refine (laws_eqBoard.calls kj21 t602 t603 _ _ t604 t617 t618 _ _ t619 true _ ?side1 ?side2 ?side3 ?side4 A52.out).mono ?_
   (case side1 => exact zab22)
   (case side2 => exact (Kd.R_reads' HO_608002.out).2.1)
   (case side3 => exact zab23)
   (case side4 => exact (Kd.R_reads' HO621.out).2.1)
   rintro e w66 ⟨rfl, hb⟩
   refine ⟨_, rfl, ?_⟩
   have n0_ := Aside0.mk (Kd.R_below zab10 hb)
   have n1_ := Aside0.mk (Kd.R_below zab9 hb)
   have n2_ := Aside0.mk (Kd.R_below zab14 hb)
   have n3_ := Aside0.mk (blk_below (g := gb585) (o := .cells #[.int .i64 a0_0, .int .i64 a0_1, .slice A0_2 l0_2.length c0_2] 24 (0, 0)) zab2 hb)
   have n4_ := Aside0.mk (blk_below (g := gb586) (o := .cells #[.int .i64 a1_0, .int .i64 a1_1] 26 (0, 0)) zab5 hb)
   have n5_ := Aside0.mk (blk_below (g := gb607) (o := .cells #[.int .i64 t602, .int .i64 t603, .slice Ao41 t604.length co41] 30 (0, 0)) zab7 hb)
   have n6_ := Aside0.mk (below_step zab1 hb)
   clear HO_13
   clear HO_608002
   clear HO621
   clear BK585
   clear BK586
   clear BK607
   clear HB
   have HO_13 := n0_
   have HO_608002 := n1_
   have HO621 := n2_
   have BK585 := n3_
   have BK586 := n4_
   have BK607 := n5_
   have HB := n6_
   clear n0_ n1_ n2_ n3_ n4_ n5_ n6_
   (try clear hb)
   (try clear hb2)
   (try clear hk)
   (try clear hi)
   (try clear hna_)
   (try clear hnb_)
   refine hK.out _ _ ⟨(blk_cell BK607.out 0).trans rfl, (blk_cell BK607.out 1).trans rfl, (blk_cell BK607.out 2).trans rfl, (blk_cell BK585.out 0).trans rfl, (blk_cell BK585.out 1).trans rfl, (blk_cell BK585.out 2).trans rfl⟩ (fun hHeld => ?_)
   clear hK K
   refine norm_ (a' := ?_) ?_ ?_
   rotate_left
   ·show Act.put _ (some 73) _ = _
    simp only [Act.put, List.setIfInBounds_toArray, List.set_cons_zero, List.set_cons_succ, i64_w, i32_w]
    rfl
   refine pure_ (i := 4) (N := some 74) (v := ?_) (a' := ?_) #[true, true, true, true, true] rfl rfl (by kernel_rfl) (fun _ _ _ h => h) (Or.inl ⟨by rfl, ?_⟩) ?_ ?_
   rotate_left
   ·intro w'
    go_simp
    with_reducible rfl
   rotate_left
   ·simp only [Act.put, List.setIfInBounds_toArray, List.set_cons_zero, List.set_cons_succ, i64_w, i32_w]
    rfl
   refine done_ (by kernel_rfl) ?_
   try go_wp2_with (first | ((with_reducible refine gate_callee (f := 19) rfl ?_); refine goesL_ (some 77) rfl rfl Try.func19 (by kernel_rfl) rfl #[.slice A2 l2.length c2] rfl zab6 ?_; (with_reducible refine (laws_toIntS.calls kj21 _ _ l2 t623 _ ?side1 ?side2 A54.out).mono ?_); (case side1 => exact zab24); (case side2 => exact HC2.out); rintro e w67 ⟨v624, rfl, ho0, hb⟩; refine ⟨_, rfl, ?_⟩; have n0_ := Aside0.mk (Kd.R_elder' zab10 (Kd.R_base ho0) hb); have n1_ := Aside0.mk (Kd.R_elder' zab9 (Kd.R_base ho0) hb); have n2_ := Aside0.mk (Kd.R_elder' zab14 (Kd.R_base ho0) hb); have n3_ := Aside0.mk (Kd.R_lower (Kd.R_new' (Kd.R_new' (Kd.R_new' ho0 (Kd.R_lt zab10)) (Kd.R_lt zab9)) (Kd.R_lt zab14)) (below_size zab1)); have n4_ := Aside0.mk (blk_below (g := gb585) (o := .cells #[.int .i64 a0_0, .int .i64 a0_1, .slice A0_2 l0_2.length c0_2] 24 (0, 0)) zab2 hb); have n5_ := Aside0.mk (blk_below (g := gb586) (o := .cells #[.int .i64 a1_0, .int .i64 a1_1] 26 (0, 0)) zab5 hb); have n6_ := Aside0.mk (blk_below (g := gb607) (o := .cells #[.int .i64 t602, .int .i64 t603, .slice Ao41 t604.length co41] 30 (0, 0)) zab7 hb); have n7_ := Aside0.mk (below_step zab1 hb); clear HO_13; clear HO_608002; clear HO621; clear BK585; clear BK586; clear BK607; clear HB; have HO_13 := n0_; have HO_608002 := n1_; have HO621 := n2_; have HO625 := n3_; have BK585 := n4_; have BK586 := n5_; have BK607 := n6_; have HB := n7_; clear n0_ n1_ n2_ n3_ n4_ n5_ n6_ n7_; (try clear hb); (try clear hb2); (try clear hk); (try clear hi); (try clear ho0); (try clear hna_); (try clear hnb_); obtain ⟨Ao68, co68, eo68⟩ := Kd.R_slice HO625.out; subst eo68) | ((with_reducible refine gate_callee (f := 22) rfl ?_); refine goesL_ (some 78) rfl rfl Try.func22 (by kernel_rfl) rfl #[.slice Ao45 t608.length co45, .slice Ao68 t623.length co68] rfl zab6 ?_; (with_reducible refine (laws_eqIntS.calls kj21 _ _ t608 _ _ t623 false _ ?side1 ?side2 ?side3 ?side4 A55.out).mono ?_); (case side1 => exact zab26); (case side2 => exact (Kd.R_reads' HO_13.out).2.1); (case side3 => exact zab27); (case side4 => exact (Kd.R_reads' HO625.out).2.1); rintro e w' ⟨rfl, ⟨nd, rfl⟩⟩; refine ⟨_, rfl, ?_⟩))
   go_ret
   exact ⟨zab16, zab1⟩

end Go.Proofs.Ythoklbeenjppbaa.Q

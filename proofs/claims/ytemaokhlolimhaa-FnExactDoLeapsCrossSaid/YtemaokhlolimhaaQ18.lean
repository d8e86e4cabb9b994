/- Written by a program of this session: functions of the translation as plain Lean functions, each with a proof that the call does what the plain function says; the conditions stand in each theorem. -/
import Derived.Test.YtemaokhlolimhaaQ0
import Derived.Test.YtemaokhlolimhaaQ2
import Derived.Test.YtemaokhlolimhaaQ15
import Derived.Test.YtemaokhlolimhaaQ17
namespace Go.Proofs.Ytemaokhlolimhaa.Q
open Go.RowKit Go.Proofs.YtemaokhlolimhaaW.PrintWords Go.Proofs.YtemaokhlolimhaaW.PrintLast Go.Proofs.YtemaokhlolimhaaW.PrintMore
attribute [local go_sem] max2_int min2_int max_two min_two max_three min_three max_four min_four   -- for this text's walks alone
set_option linter.unusedVariables false
set_option linter.unusedSimpArgs false

theorem zs1 {p : Prop} (h : p := by repeat (first | (with_reducible first | exact HB.out | apply below_alloc | apply pw_below_drewN | apply below_drew1 | refine below_set ?_ GE312.out | refine below_set ?_ GE313.out | refine below_set ?_ GE335.out) | exact HB.out)) : p := h
theorem zs2 {p : Prop} (h : p := by first | exact BK312.out | ((with_reducible repeat (first | refine blk_drewN ?_ _ | refine blk_drew ?_ | refine blk_alloc ?_ _)); exact BK312.out)) : p := h
theorem zs3 {p : Prop} (h : p := by (try simp only [List.map_toArray, List.map_cons, List.map_nil]); first | done | rfl | (simp only [List.length_drop, List.length_take]; rfl)) : p := h
theorem zs4 {p : Prop} (h : p := by repeat (first | (with_reducible first | exact HB.out | apply below_alloc | apply pw_below_drewN | apply below_drew1 | refine below_set ?_ GE312.out | refine below_set ?_ GE313.out) | exact HB.out)) : p := h
theorem zs5 {p : Prop} (h : p := by first | exact BK313.out | ((with_reducible repeat (first | refine blk_drewN ?_ _ | refine blk_drew ?_ | refine blk_alloc ?_ _)); exact BK313.out)) : p := h
theorem zs6 {p : Prop} (h : p := by first | exact HO_336002.out | ((with_reducible repeat (first | apply Kd.R_alloc | apply Kd.R_drewN | apply Kd.R_drew)); exact HO_336002.out)) : p := h
theorem zs7 {p : Prop} (h : p := by first | exact HO_14.out | ((with_reducible repeat (first | apply Kd.R_alloc | apply Kd.R_drewN | apply Kd.R_drew)); exact HO_14.out)) : p := h
theorem zs8 {p : Prop} (h : p := by first | exact HO_13.out | ((with_reducible repeat (first | apply Kd.R_alloc | apply Kd.R_drewN | apply Kd.R_drew)); exact HO_13.out)) : p := h
theorem zs9 {p : Prop} (h : p := by first | exact BK335.out | ((with_reducible repeat (first | refine blk_drewN ?_ _ | refine blk_drew ?_ | refine blk_alloc ?_ _)); exact BK335.out)) : p := h
theorem zs10 {p : Prop} (h : p := by repeat (first | (with_reducible first | exact HB.out | apply below_alloc | apply pw_below_drewN | apply below_drew1 | refine below_set ?_ GE312.out) | exact HB.out)) : p := h
theorem zs11 {p : Prop} (h : p := by repeat (first | (with_reducible first | exact HB.out | apply below_alloc | apply pw_below_drewN | apply below_drew1) | exact HB.out)) : p := h
theorem zs12 {p : Prop} (h : p := by first | exact HO350.out | ((with_reducible repeat (first | apply Kd.R_alloc | apply Kd.R_drewN | apply Kd.R_drew)); exact HO350.out)) : p := h
theorem zs13 {p : Prop} (h : p := by first | exact HO319.out | ((with_reducible repeat (first | apply Kd.R_alloc | apply Kd.R_drewN | apply Kd.R_drew)); exact HO319.out)) : p := h
theorem zs14 {p : Prop} (h : p := by repeat (first | exact (Kd.C_below HR0_2.out HB.out) | (with_reducible refine Kd.C_alloc ?_ _) | (with_reducible refine Kd.C_drewN ?_ _) | (with_reducible refine Kd.C_drew ?_))) : p := h
theorem zs15 {p : Prop} (h : p := by first | exact HO324.out | ((with_reducible repeat (first | apply Kd.R_alloc | apply Kd.R_drewN | apply Kd.R_drew)); exact HO324.out)) : p := h
theorem zs16 {p : Prop} (h : p := by first | exact HO327.out | ((with_reducible repeat (first | apply Kd.R_alloc | apply Kd.R_drewN | apply Kd.R_drew)); exact HO327.out)) : p := h
theorem zs17 {p : Prop} (h : p := by first | rfl | (simp [errW_none, errW_some] <;> rfl) | (simp [*, errW_none, errW_some] <;> rfl)) : p := h
theorem zs18 {p : Prop} (h : p := by repeat (first | exact (Kd.R_reads' HO_336002.out).2.2 | (with_reducible refine Kd.C_alloc ?_ _) | (with_reducible refine Kd.C_drewN ?_ _) | (with_reducible refine Kd.C_drew ?_))) : p := h
theorem zs19 {p : Prop} (h : p := by repeat (first | exact (Kd.R_reads' HO350.out).2.2 | (with_reducible refine Kd.C_alloc ?_ _) | (with_reducible refine Kd.C_drewN ?_ _) | (with_reducible refine Kd.C_drew ?_))) : p := h
theorem zs20 {p : Prop} (h : p := by repeat (first | exact (Kd.C_below HR2.out HB.out) | (with_reducible refine Kd.C_alloc ?_ _) | (with_reducible refine Kd.C_drewN ?_ _) | (with_reducible refine Kd.C_drew ?_))) : p := h
theorem zs21 {p : Prop} (h : p := by (with_reducible repeat (first | apply Kd.R_alloc | apply Kd.R_drewN | apply Kd.R_drew)); exact (Kd.R_mono (Kd.R_far (p := ⟨gb335, 2, none⟩) (Kd.R_far (p := ⟨gb335, 1, none⟩) (Kd.R_far (p := ⟨gb335, 0, none⟩) (Kd.R_types HO334.out BK335.out (by decide)) (fun _ hk => hk.2) (.int .i64 t330)) (fun _ hk => hk.2) (.int .i64 t331)) (fun _ hk => hk.2) (.slice Ao49 t332.length co49)) (fun _ h_ => h_.1))) : p := h
theorem zs22 {p : Prop} (h : p := by (with_reducible repeat (first | apply Kd.R_alloc | apply Kd.R_drewN | apply Kd.R_drew)); exact (Kd.R_mono (Kd.R_far (p := ⟨gb335, 2, none⟩) (Kd.R_far (p := ⟨gb335, 1, none⟩) (Kd.R_far (p := ⟨gb335, 0, none⟩) (Kd.R_types HO327.out BK335.out (by decide)) (fun _ hk => hk.2) (.int .i64 t330)) (fun _ hk => hk.2) (.int .i64 t331)) (fun _ hk => hk.2) (.slice Ao49 t332.length co49)) (fun _ h_ => h_.1))) : p := h
theorem zs23 {p : Prop} (h : p := by (with_reducible repeat (first | apply Kd.R_alloc | apply Kd.R_drewN | apply Kd.R_drew)); exact (Kd.R_mono (Kd.R_far (p := ⟨gb335, 2, none⟩) (Kd.R_far (p := ⟨gb335, 1, none⟩) (Kd.R_far (p := ⟨gb335, 0, none⟩) (Kd.R_types HO324.out BK335.out (by decide)) (fun _ hk => hk.2) (.int .i64 t330)) (fun _ hk => hk.2) (.int .i64 t331)) (fun _ hk => hk.2) (.slice Ao49 t332.length co49)) (fun _ h_ => h_.1))) : p := h
theorem zs24 {p : Prop} (h : p := by (with_reducible repeat (first | apply Kd.R_alloc | apply Kd.R_drewN | apply Kd.R_drew)); exact (Kd.R_mono (Kd.R_far (p := ⟨gb335, 2, none⟩) (Kd.R_far (p := ⟨gb335, 1, none⟩) (Kd.R_far (p := ⟨gb335, 0, none⟩) (Kd.R_types HO319.out BK335.out (by decide)) (fun _ hk => hk.2) (.int .i64 t330)) (fun _ hk => hk.2) (.int .i64 t331)) (fun _ hk => hk.2) (.slice Ao49 t332.length co49)) (fun _ h_ => h_.1))) : p := h
theorem zs25 {p : Prop} (h : p := by first | exact HO334.out | ((with_reducible repeat (first | apply Kd.R_alloc | apply Kd.R_drewN | apply Kd.R_drew)); exact HO334.out)) : p := h
theorem zs26 {p : Prop} (h : p := by repeat (first | exact (Kd.R_reads' HO_13.out).2.2 | (with_reducible refine Kd.C_alloc ?_ _) | (with_reducible refine Kd.C_drewN ?_ _) | (with_reducible refine Kd.C_drew ?_))) : p := h
theorem zs27 {p : Prop} (h : p := by repeat (first | exact (Kd.R_reads' HO354.out).2.2 | (with_reducible refine Kd.C_alloc ?_ _) | (with_reducible refine Kd.C_drewN ?_ _) | (with_reducible refine Kd.C_drew ?_))) : p := h
theorem zs28 {p : Prop} (h : p := by first | exact HO354.out | ((with_reducible repeat (first | apply Kd.R_alloc | apply Kd.R_drewN | apply Kd.R_drew)); exact HO354.out)) : p := h
theorem zs29 {p : Prop} (h : p := by first | exact HO338.out | ((with_reducible repeat (first | apply Kd.R_alloc | apply Kd.R_drewN | apply Kd.R_drew)); exact HO338.out)) : p := h
theorem zs30 {p : Prop} (h : p := by repeat (first | exact (Kd.R_reads' HO_14.out).2.2 | (with_reducible refine Kd.C_alloc ?_ _) | (with_reducible refine Kd.C_drewN ?_ _) | (with_reducible refine Kd.C_drew ?_))) : p := h
theorem zs31 {p : Prop} (h : p := by repeat (first | exact (Kd.R_reads' HO358.out).2.2 | (with_reducible refine Kd.C_alloc ?_ _) | (with_reducible refine Kd.C_drewN ?_ _) | (with_reducible refine Kd.C_drew ?_))) : p := h
theorem zs32 {p : Prop} (h : p := by repeat (first | exact (Kd.C_below HR3.out HB.out) | (with_reducible refine Kd.C_alloc ?_ _) | (with_reducible refine Kd.C_drewN ?_ _) | (with_reducible refine Kd.C_drew ?_))) : p := h
theorem zs33 {p : Prop} (h : p := by (with_reducible repeat (first | apply Kd.R_alloc | apply Kd.R_drewN | apply Kd.R_drew)); exact Kd.R_mono HO341.out (fun _ hk => ⟨hk.2, hk.1.2⟩)) : p := h
theorem zs34 {p : Prop} (h : p := by (with_reducible repeat (first | apply Kd.R_alloc | apply Kd.R_drewN | apply Kd.R_drew)); exact Kd.R_mono HO338.out (fun _ hk => ⟨hk.2, hk.1.2⟩)) : p := h
theorem zs35 {p : Prop} (h : p := by (with_reducible repeat (first | apply Kd.R_alloc | apply Kd.R_drewN | apply Kd.R_drew)); exact Kd.R_mono HO334.out (fun _ hk => ⟨hk.1.2, hk.2⟩)) : p := h
theorem zs36 {p : Prop} (h : p := by rw [hg]; exact Nat.ne_of_lt (blk_lt (g := gb312) (o := .cells #[.int .i64 a0_0, .int .i64 a0_1, .slice A0_2 l0_2.length c0_2] 24 (0, 0)) zs2)) : p := h
theorem zs37 {p : Prop} (h : p := by rw [hg]; exact Nat.ne_of_gt (blk_lt (g := gb312) (o := .cells #[.int .i64 a0_0, .int .i64 a0_1, .slice A0_2 l0_2.length c0_2] 24 (0, 0)) zs2)) : p := h
theorem zs38 {p : Prop} (h : p := by rw [hg]; exact (below_size zs11)) : p := h
theorem zs39 {p : Prop} (h : p := by rw [hg]; exact (below_size zs10)) : p := h
theorem zs40 {p : Prop} (h : p := by repeat (first | exact (Kd.C_below HR3.out zs1) | (with_reducible refine Kd.C_alloc ?_ _) | (with_reducible refine Kd.C_drewN ?_ _) | (with_reducible refine Kd.C_drew ?_))) : p := h
/-! ### laws_FnExactDoLeapsCross: function 5 -/
def laws_FnExactDoLeapsCross.j0 : Nat → List Int → List Int → List Int → List Int → Bool → Int → Int → List Int → Int → Int → List Int → Option (Bool)
 | 0, _, _, _, _, _, _, _, _, _, _, _ => none
 | k + 1, x2, x3, x13, x14, x62, x313000, x313001, x313002, x336000, x336001, x336002 => if x62 = true then (some false) else ((laws_toBoard.f k x313000 x313001 x313002).bind fun bt346 => ((laws_eqBoard.f k x336000 x336001 x336002 bt346.1 bt346.2.1 bt346.2.2).bind fun t351 => (if t351 = true then ((laws_toIntS.f k x2).bind fun t352 => ((laws_eqIntS.f k x13 t352).bind fun t355 => (if t355 = true then ((laws_toIntS.f k x3).bind fun t356 => ((laws_eqIntS.f k x14 t356).bind fun t359 => (if t359 = true then (some true) else (some false)))) else (some false)))) else (some false))))
def laws_FnExactDoLeapsCross.f (k : Nat) (a0_0 : Int) (a0_1 : Int) (l0_2 : List Int) (a1_0 : Int) (a1_1 : Int) (l2 : List Int) (l3 : List Int) : Option (Bool) := if (l2.length : Int) > 1048576 then (some true) else (if (l3.length : Int) > 1048576 then (some true) else ((laws_szBoard.f a0_0 a0_1 l0_2 1048576).bind fun t314 => (if t314 < 0 then (some true) else ((laws_toBoard.f k a0_0 a0_1 l0_2).bind fun bt315 => ((laws_toLeaper.f a1_0 a1_1).bind fun bt320 => ((laws_toIntS.f k l2).bind fun t322 => ((laws_toIntS.f k l3).bind fun t325 => ((spec_DoLeapsCross.f k bt315.1 bt315.2.1 bt315.2.2 bt320.1 bt320.2 t322 t325).bind fun bt328 => ((laws_toBoard.f k a0_0 a0_1 l0_2).bind fun bt330 => ((laws_toIntS.f k l2).bind fun t336 => ((laws_toIntS.f k l3).bind fun t339 => ((laws_toLeaper.f a1_0 a1_1).bind fun bt342 => ((impl_DoLeapsCross.f k bt330.1 bt330.2.1 bt330.2.2 bt342.1 bt342.2 t336 t339).bind fun bt344 => (if (bt344.1 != bt328.1) = true then (laws_FnExactDoLeapsCross.j0 k l2 l3 t336 t339 true a0_0 a0_1 l0_2 bt330.1 bt330.2.1 bt330.2.2) else (laws_FnExactDoLeapsCross.j0 k l2 l3 t336 t339 (bt344.2 != bt328.2) a0_0 a0_1 l0_2 bt330.1 bt330.2.1 bt330.2.2)))))))))))))))
def laws_FnExactDoLeapsCross.T9 : Bool × List (List Nat × List Nat) := (true, [([], []), ([0], [0]), ([], []), ([2, 1], [2]), ([], []), ([4, 3], [4]), ([], []), ([6, 5], [6]), ([1, 3, 5, 7, 7], [1, 3, 5, 7]), ([8], [8]), ([9], [9]), ([9], [9]), ([10, 8, 0, 1, 2, 3, 4, 5, 6, 7, 8, 9, 10], [10]), ([11, 12, 0, 1, 2, 3, 4, 5, 6, 7, 8, 9, 10, 11, 12], [11])])
def laws_FnExactDoLeapsCross.B9 : List Nat := [0, 1, 0, 7, 0, 31, 0, 127, 255, 511, 1023, 1023, 2047, 8191]
theorem laws_FnExactDoLeapsCross.tab9 : rtab .any (opsOf Try.f5 9) = laws_FnExactDoLeapsCross.T9 := by kernel_rfl
theorem laws_FnExactDoLeapsCross.bits9 : waitsOk laws_FnExactDoLeapsCross.T9.2 laws_FnExactDoLeapsCross.B9 = true := by kernel_rfl
def laws_FnExactDoLeapsCross.T13 : Bool × List (List Nat × List Nat) := (true, [([], []), ([], []), ([1], [1]), ([], []), ([], []), ([0, 2, 3, 4, 2], [0, 2, 3, 4]), ([5], [5]), ([6], [6]), ([6], [6]), ([7, 5, 0, 1, 2, 3, 4, 5, 6, 7], [7]), ([8, 9, 0, 1, 2, 3, 4, 5, 6, 7, 8, 9], [8])])
def laws_FnExactDoLeapsCross.B13 : List Nat := [0, 0, 2, 0, 0, 31, 63, 127, 127, 255, 1023]
theorem laws_FnExactDoLeapsCross.tab13 : rtab .any (opsOf Try.f5 13) = laws_FnExactDoLeapsCross.T13 := by kernel_rfl
theorem laws_FnExactDoLeapsCross.bits13 : waitsOk laws_FnExactDoLeapsCross.T13.2 laws_FnExactDoLeapsCross.B13 = true := by kernel_rfl
set_option maxHeartbeats 8000000 in
set_option maxRecDepth 100000 in
theorem laws_FnExactDoLeapsCross.calls (k : Nat) (a0_0 : Int) (a0_1 : Int) (A0_2 : Option Addr) (c0_2 : Nat) (l0_2 : List Int) (a1_0 : Int) (a1_1 : Int) (A2 : Option Addr) (c2 : Nat) (l2 : List Int) (A3 : Option Addr) (c3 : Nat) (l3 : List Int) (r : Bool) (w : World) (hr0_2 : Kd.C (Kd.int .i64) w A0_2 l0_2.length l0_2) (hc0_2 : l0_2.length ≤ c0_2) (hr2 : Kd.C (Kd.int .i64) w A2 l2.length l2) (hc2 : l2.length ≤ c2) (hr3 : Kd.C (Kd.int .i64) w A3 l3.length l3) (hc3 : l3.length ≤ c3) (h : laws_FnExactDoLeapsCross.f k a0_0 a0_1 l0_2 a1_0 a1_1 l2 l3 = some r) :
  Calls Try.prog 5 #[.agg #[.int .i64 a0_0, .int .i64 a0_1, .slice A0_2 l0_2.length c0_2], .agg #[.int .i64 a1_0, .int .i64 a1_1], .slice A2 l2.length c2, .slice A3 l3.length c3] w fun e w' => e = .returned (.bool r) ∧ Below w.heap.size w w' := by
 have hu24 := Try.underlying24
 have hu26 := Try.underlying26
 have hu31 := Try.underlying31
 have HR0_2 := Aside0.mk hr0_2
 have HC0_2 := Aside0.mk hc0_2
 clear hr0_2 hc0_2
 have HR2 := Aside0.mk hr2
 have HC2 := Aside0.mk hc2
 clear hr2 hc2
 have HR3 := Aside0.mk hr3
 have HC3 := Aside0.mk hc3
 clear hr3 hc3
 have HB := Aside0.mk (Below.refl w.heap.size w)
 have H : (if (l2.length : Int) > 1048576 then (some true) else (if (l3.length : Int) > 1048576 then (some true) else ((laws_szBoard.f a0_0 a0_1 l0_2 1048576).bind fun t314 => (if t314 < 0 then (some true) else ((laws_toBoard.f k a0_0 a0_1 l0_2).bind fun bt315 => ((laws_toLeaper.f a1_0 a1_1).bind fun bt320 => ((laws_toIntS.f k l2).bind fun t322 => ((laws_toIntS.f k l3).bind fun t325 => ((spec_DoLeapsCross.f k bt315.1 bt315.2.1 bt315.2.2 bt320.1 bt320.2 t322 t325).bind fun bt328 => ((laws_toBoard.f k a0_0 a0_1 l0_2).bind fun bt330 => ((laws_toIntS.f k l2).bind fun t336 => ((laws_toIntS.f k l3).bind fun t339 => ((laws_toLeaper.f a1_0 a1_1).bind fun bt342 => ((impl_DoLeapsCross.f k bt330.1 bt330.2.1 bt330.2.2 bt342.1 bt342.2 t336 t339).bind fun bt344 => (if (bt344.1 != bt328.1) = true then (laws_FnExactDoLeapsCross.j0 k l2 l3 t336 t339 true a0_0 a0_1 l0_2 bt330.1 bt330.2.1 bt330.2.2) else (laws_FnExactDoLeapsCross.j0 k l2 l3 t336 t339 (bt344.2 != bt328.2) a0_0 a0_1 l0_2 bt330.1 bt330.2.1 bt330.2.2)))))))))))))))) = some r := h
 clear h
 by_cases c5 : (l2.length : Int) > 1048576
 ·rw [if_pos c5] at H
  have c5b0 : decide (1048576 < (l2.length : Int)) = true := decide_eq_true c5
  have c5b1 : decide (1048576 < l2.length) = true := decide_eq_true (by omega)
  clear c5
  obtain rfl := Option.some.inj H
  go_enter Try.func5, Try.ntmps5
  go_wp2_with (first | ((with_reducible refine gate_dst (N := 4) rfl ?_); refine box_event ?hg (N := 4) ?hd (cs := #[.int .i64 a0_0, .int .i64 a0_1, .slice A0_2 l0_2.length c0_2]) (t := 24) ?hr ?_; (case hd => rfl); (case hg => rfl); (case hr => first | (go_simp; done) | (go_simp; rfl)); intro gb312 hg w6 hbox hb; have n0_ := Aside0.mk (below_step zs11 hb); have n1_ := Aside0.mk (hbox); have n2_ := Aside0.mk ((zs38 : w.heap.size ≤ gb312)); have n3_ := Aside0.mk ((zs38 : w.heap.size ≤ gb312)); clear HB; have HB := n0_; have BK312 := n1_; have GW312 := n2_; have GE312 := n3_; clear n0_ n1_ n2_ n3_; clear hb hbox hg) | ((with_reducible refine gate_dst (N := 5) rfl ?_); refine box_event ?hg (N := 5) ?hd (cs := #[.int .i64 a1_0, .int .i64 a1_1]) (t := 26) ?hr ?_; (case hd => rfl); (case hg => rfl); (case hr => first | (go_simp; done) | (go_simp; rfl)); intro gb313 hg w7 hbox hb; have n0_ := Aside0.mk (blk_below (g := gb312) (o := .cells #[.int .i64 a0_0, .int .i64 a0_1, .slice A0_2 l0_2.length c0_2] 24 (0, 0)) zs2 hb); have n1_ := Aside0.mk (below_step zs10 hb); have n2_ := Aside0.mk (hbox); have n3_ := Aside0.mk ((zs39 : w.heap.size ≤ gb313)); have n4_ := Aside0.mk ((zs39 : w.heap.size ≤ gb313)); have n5_ := Aside0.mk ((zs36 : gb312 ≠ gb313)); have n6_ := Aside0.mk ((zs37 : gb313 ≠ gb312)); clear BK312; clear HB; have BK312 := n0_; have HB := n1_; have BK313 := n2_; have GW313 := n3_; have GE313 := n4_; have NB312_313 := n5_; have NB313_312 := n6_; clear n0_ n1_ n2_ n3_ n4_ n5_ n6_; clear hb hbox hg))
  go_ret
  exact ⟨zs17, zs4⟩
 rw [if_neg c5] at H
 have c5b0 : decide (1048576 < (l2.length : Int)) = false := decide_eq_false c5
 have c5b1 : decide (1048576 < l2.length) = false := decide_eq_false (by omega)
 clear c5
 by_cases c8 : (l3.length : Int) > 1048576
 ·rw [if_pos c8] at H
  have c8b0 : decide (1048576 < (l3.length : Int)) = true := decide_eq_true c8
  have c8b1 : decide (1048576 < l3.length) = true := decide_eq_true (by omega)
  clear c8
  obtain rfl := Option.some.inj H
  go_enter Try.func5, Try.ntmps5
  go_wp2_with (first | ((with_reducible refine gate_dst (N := 4) rfl ?_); refine box_event ?hg (N := 4) ?hd (cs := #[.int .i64 a0_0, .int .i64 a0_1, .slice A0_2 l0_2.length c0_2]) (t := 24) ?hr ?_; (case hd => rfl); (case hg => rfl); (case hr => first | (go_simp; done) | (go_simp; rfl)); intro gb312 hg w9 hbox hb; have n0_ := Aside0.mk (below_step zs11 hb); have n1_ := Aside0.mk (hbox); have n2_ := Aside0.mk ((zs38 : w.heap.size ≤ gb312)); have n3_ := Aside0.mk ((zs38 : w.heap.size ≤ gb312)); clear HB; have HB := n0_; have BK312 := n1_; have GW312 := n2_; have GE312 := n3_; clear n0_ n1_ n2_ n3_; clear hb hbox hg) | ((with_reducible refine gate_dst (N := 5) rfl ?_); refine box_event ?hg (N := 5) ?hd (cs := #[.int .i64 a1_0, .int .i64 a1_1]) (t := 26) ?hr ?_; (case hd => rfl); (case hg => rfl); (case hr => first | (go_simp; done) | (go_simp; rfl)); intro gb313 hg w10 hbox hb; have n0_ := Aside0.mk (blk_below (g := gb312) (o := .cells #[.int .i64 a0_0, .int .i64 a0_1, .slice A0_2 l0_2.length c0_2] 24 (0, 0)) zs2 hb); have n1_ := Aside0.mk (below_step zs10 hb); have n2_ := Aside0.mk (hbox); have n3_ := Aside0.mk ((zs39 : w.heap.size ≤ gb313)); have n4_ := Aside0.mk ((zs39 : w.heap.size ≤ gb313)); have n5_ := Aside0.mk ((zs36 : gb312 ≠ gb313)); have n6_ := Aside0.mk ((zs37 : gb313 ≠ gb312)); clear BK312; clear HB; have BK312 := n0_; have HB := n1_; have BK313 := n2_; have GW313 := n3_; have GE313 := n4_; have NB312_313 := n5_; have NB313_312 := n6_; clear n0_ n1_ n2_ n3_ n4_ n5_ n6_; clear hb hbox hg))
  go_ret
  exact ⟨zs17, zs4⟩
 rw [if_neg c8] at H
 have c8b0 : decide (1048576 < (l3.length : Int)) = false := decide_eq_false c8
 have c8b1 : decide (1048576 < l3.length) = false := decide_eq_false (by omega)
 clear c8
 replace H := Option.bind_eq_some_iff.mp H
 obtain ⟨t314, A110, H⟩ := H
 replace H : (if t314 < 0 then (some true) else ((laws_toBoard.f k a0_0 a0_1 l0_2).bind fun bt315 => ((laws_toLeaper.f a1_0 a1_1).bind fun bt320 => ((laws_toIntS.f k l2).bind fun t322 => ((laws_toIntS.f k l3).bind fun t325 => ((spec_DoLeapsCross.f k bt315.1 bt315.2.1 bt315.2.2 bt320.1 bt320.2 t322 t325).bind fun bt328 => ((laws_toBoard.f k a0_0 a0_1 l0_2).bind fun bt330 => ((laws_toIntS.f k l2).bind fun t336 => ((laws_toIntS.f k l3).bind fun t339 => ((laws_toLeaper.f a1_0 a1_1).bind fun bt342 => ((impl_DoLeapsCross.f k bt330.1 bt330.2.1 bt330.2.2 bt342.1 bt342.2 t336 t339).bind fun bt344 => (if (bt344.1 != bt328.1) = true then (laws_FnExactDoLeapsCross.j0 k l2 l3 t336 t339 true a0_0 a0_1 l0_2 bt330.1 bt330.2.1 bt330.2.2) else (laws_FnExactDoLeapsCross.j0 k l2 l3 t336 t339 (bt344.2 != bt328.2) a0_0 a0_1 l0_2 bt330.1 bt330.2.1 bt330.2.2))))))))))))) = some r := H
 have A11 := Aside0.mk A110
 clear A110
 by_cases c12 : t314 < 0
 ·rw [if_pos c12] at H
  have c12b0 : decide (t314 < 0) = true := decide_eq_true c12
  clear c12
  obtain rfl := Option.some.inj H
  go_enter Try.func5, Try.ntmps5
  go_wp2_with (first | ((with_reducible refine gate_dst (N := 4) rfl ?_); refine box_event ?hg (N := 4) ?hd (cs := #[.int .i64 a0_0, .int .i64 a0_1, .slice A0_2 l0_2.length c0_2]) (t := 24) ?hr ?_; (case hd => rfl); (case hg => rfl); (case hr => first | (go_simp; done) | (go_simp; rfl)); intro gb312 hg w13 hbox hb; have n0_ := Aside0.mk (below_step zs11 hb); have n1_ := Aside0.mk (hbox); have n2_ := Aside0.mk ((zs38 : w.heap.size ≤ gb312)); have n3_ := Aside0.mk ((zs38 : w.heap.size ≤ gb312)); clear HB; have HB := n0_; have BK312 := n1_; have GW312 := n2_; have GE312 := n3_; clear n0_ n1_ n2_ n3_; clear hb hbox hg) | ((with_reducible refine gate_dst (N := 5) rfl ?_); refine box_event ?hg (N := 5) ?hd (cs := #[.int .i64 a1_0, .int .i64 a1_1]) (t := 26) ?hr ?_; (case hd => rfl); (case hg => rfl); (case hr => first | (go_simp; done) | (go_simp; rfl)); intro gb313 hg w14 hbox hb; have n0_ := Aside0.mk (blk_below (g := gb312) (o := .cells #[.int .i64 a0_0, .int .i64 a0_1, .slice A0_2 l0_2.length c0_2] 24 (0, 0)) zs2 hb); have n1_ := Aside0.mk (below_step zs10 hb); have n2_ := Aside0.mk (hbox); have n3_ := Aside0.mk ((zs39 : w.heap.size ≤ gb313)); have n4_ := Aside0.mk ((zs39 : w.heap.size ≤ gb313)); have n5_ := Aside0.mk ((zs36 : gb312 ≠ gb313)); have n6_ := Aside0.mk ((zs37 : gb313 ≠ gb312)); clear BK312; clear HB; have BK312 := n0_; have HB := n1_; have BK313 := n2_; have GW313 := n3_; have GE313 := n4_; have NB312_313 := n5_; have NB313_312 := n6_; clear n0_ n1_ n2_ n3_ n4_ n5_ n6_; clear hb hbox hg; have hnb15 := NB312_313.out; have hnc15 := NB313_312.out; have hcz16_0 : w14.cell? ⟨gb312, 0, none⟩ = some (.int .i64 a0_0) := (blk_cell BK312.out 0).trans rfl; have hcz16_1 : w14.cell? ⟨gb312, 1, none⟩ = some (.int .i64 a0_1) := (blk_cell BK312.out 1).trans rfl; have hcz16_2 : w14.cell? ⟨gb312, 2, none⟩ = some (.slice A0_2 l0_2.length c0_2) := (blk_cell BK312.out 2).trans rfl; have hfz16_0 := blk_frozen BK312.out 0; have hfz16_1 := blk_frozen BK312.out 1; have hfz16_2 := blk_frozen BK312.out 2) | ((with_reducible refine gate_callee (f := 7) rfl ?_); refine goesL_ (some 25) rfl rfl Try.func7 (by kernel_rfl) rfl #[.agg #[.int .i64 a0_0, .int .i64 a0_1, .slice A0_2 l0_2.length c0_2], .int .i64 1048576] rfl zs3 ?_; (with_reducible refine (laws_szBoard.calls a0_0 a0_1 _ _ l0_2 1048576 t314 _ ?side1 ?side2 A11.out).mono ?_); (case side1 => exact zs14); (case side2 => exact HC0_2.out); rintro e w17 ⟨rfl, hb⟩; refine ⟨_, rfl, ?_⟩; have n0_ := Aside0.mk (blk_below (g := gb312) (o := .cells #[.int .i64 a0_0, .int .i64 a0_1, .slice A0_2 l0_2.length c0_2] 24 (0, 0)) zs2 hb); have n1_ := Aside0.mk (blk_below (g := gb313) (o := .cells #[.int .i64 a1_0, .int .i64 a1_1] 26 (0, 0)) zs5 hb); have n2_ := Aside0.mk (below_step zs4 hb); clear BK312; clear BK313; clear HB; have BK312 := n0_; have BK313 := n1_; have HB := n2_; clear n0_ n1_ n2_; (try clear hb); (try clear hb2); (try clear hk); (try clear hi); (try clear hna_); (try clear hnb_)))
  go_ret
  exact ⟨zs17, zs4⟩
 rw [if_neg c12] at H
 have c12b0 : decide (t314 < 0) = false := decide_eq_false c12
 clear c12
 replace H := Option.bind_eq_some_iff.mp H
 obtain ⟨⟨t315, t316, t317⟩, A180, H⟩ := H
 replace H : ((laws_toLeaper.f a1_0 a1_1).bind fun bt320 => ((laws_toIntS.f k l2).bind fun t322 => ((laws_toIntS.f k l3).bind fun t325 => ((spec_DoLeapsCross.f k t315 t316 t317 bt320.1 bt320.2 t322 t325).bind fun bt328 => ((laws_toBoard.f k a0_0 a0_1 l0_2).bind fun bt330 => ((laws_toIntS.f k l2).bind fun t336 => ((laws_toIntS.f k l3).bind fun t339 => ((laws_toLeaper.f a1_0 a1_1).bind fun bt342 => ((impl_DoLeapsCross.f k bt330.1 bt330.2.1 bt330.2.2 bt342.1 bt342.2 t336 t339).bind fun bt344 => (if (bt344.1 != bt328.1) = true then (laws_FnExactDoLeapsCross.j0 k l2 l3 t336 t339 true a0_0 a0_1 l0_2 bt330.1 bt330.2.1 bt330.2.2) else (laws_FnExactDoLeapsCross.j0 k l2 l3 t336 t339 (bt344.2 != bt328.2) a0_0 a0_1 l0_2 bt330.1 bt330.2.1 bt330.2.2))))))))))) = some r := H
 have A18 := Aside0.mk A180
 clear A180
 replace H := Option.bind_eq_some_iff.mp H
 obtain ⟨⟨t320, t321⟩, A190, H⟩ := H
 replace H : ((laws_toIntS.f k l2).bind fun t322 => ((laws_toIntS.f k l3).bind fun t325 => ((spec_DoLeapsCross.f k t315 t316 t317 t320 t321 t322 t325).bind fun bt328 => ((laws_toBoard.f k a0_0 a0_1 l0_2).bind fun bt330 => ((laws_toIntS.f k l2).bind fun t336 => ((laws_toIntS.f k l3).bind fun t339 => ((laws_toLeaper.f a1_0 a1_1).bind fun bt342 => ((impl_DoLeapsCross.f k bt330.1 bt330.2.1 bt330.2.2 bt342.1 bt342.2 t336 t339).bind fun bt344 => (if (bt344.1 != bt328.1) = true then (laws_FnExactDoLeapsCross.j0 k l2 l3 t336 t339 true a0_0 a0_1 l0_2 bt330.1 bt330.2.1 bt330.2.2) else (laws_FnExactDoLeapsCross.j0 k l2 l3 t336 t339 (bt344.2 != bt328.2) a0_0 a0_1 l0_2 bt330.1 bt330.2.1 bt330.2.2)))))))))) = some r := H
 have A19 := Aside0.mk A190
 clear A190
 replace H := Option.bind_eq_some_iff.mp H
 obtain ⟨t322, A200, H⟩ := H
 replace H : ((laws_toIntS.f k l3).bind fun t325 => ((spec_DoLeapsCross.f k t315 t316 t317 t320 t321 t322 t325).bind fun bt328 => ((laws_toBoard.f k a0_0 a0_1 l0_2).bind fun bt330 => ((laws_toIntS.f k l2).bind fun t336 => ((laws_toIntS.f k l3).bind fun t339 => ((laws_toLeaper.f a1_0 a1_1).bind fun bt342 => ((impl_DoLeapsCross.f k bt330.1 bt330.2.1 bt330.2.2 bt342.1 bt342.2 t336 t339).bind fun bt344 => (if (bt344.1 != bt328.1) = true then (laws_FnExactDoLeapsCross.j0 k l2 l3 t336 t339 true a0_0 a0_1 l0_2 bt330.1 bt330.2.1 bt330.2.2) else (laws_FnExactDoLeapsCross.j0 k l2 l3 t336 t339 (bt344.2 != bt328.2) a0_0 a0_1 l0_2 bt330.1 bt330.2.1 bt330.2.2))))))))) = some r := H
 have A20 := Aside0.mk A200
 clear A200
 replace H := Option.bind_eq_some_iff.mp H
 obtain ⟨t325, A210, H⟩ := H
 replace H : ((spec_DoLeapsCross.f k t315 t316 t317 t320 t321 t322 t325).bind fun bt328 => ((laws_toBoard.f k a0_0 a0_1 l0_2).bind fun bt330 => ((laws_toIntS.f k l2).bind fun t336 => ((laws_toIntS.f k l3).bind fun t339 => ((laws_toLeaper.f a1_0 a1_1).bind fun bt342 => ((impl_DoLeapsCross.f k bt330.1 bt330.2.1 bt330.2.2 bt342.1 bt342.2 t336 t339).bind fun bt344 => (if (bt344.1 != bt328.1) = true then (laws_FnExactDoLeapsCross.j0 k l2 l3 t336 t339 true a0_0 a0_1 l0_2 bt330.1 bt330.2.1 bt330.2.2) else (laws_FnExactDoLeapsCross.j0 k l2 l3 t336 t339 (bt344.2 != bt328.2) a0_0 a0_1 l0_2 bt330.1 bt330.2.1 bt330.2.2)))))))) = some r := H
 have A21 := Aside0.mk A210
 clear A210
 replace H := Option.bind_eq_some_iff.mp H
 obtain ⟨⟨t328, t329⟩, A220, H⟩ := H
 replace H : ((laws_toBoard.f k a0_0 a0_1 l0_2).bind fun bt330 => ((laws_toIntS.f k l2).bind fun t336 => ((laws_toIntS.f k l3).bind fun t339 => ((laws_toLeaper.f a1_0 a1_1).bind fun bt342 => ((impl_DoLeapsCross.f k bt330.1 bt330.2.1 bt330.2.2 bt342.1 bt342.2 t336 t339).bind fun bt344 => (if (bt344.1 != t328) = true then (laws_FnExactDoLeapsCross.j0 k l2 l3 t336 t339 true a0_0 a0_1 l0_2 bt330.1 bt330.2.1 bt330.2.2) else (laws_FnExactDoLeapsCross.j0 k l2 l3 t336 t339 (bt344.2 != t329) a0_0 a0_1 l0_2 bt330.1 bt330.2.1 bt330.2.2))))))) = some r := H
 have A22 := Aside0.mk A220
 clear A220
 replace H := Option.bind_eq_some_iff.mp H
 obtain ⟨⟨t330, t331, t332⟩, A230, H⟩ := H
 replace H : ((laws_toIntS.f k l2).bind fun t336 => ((laws_toIntS.f k l3).bind fun t339 => ((laws_toLeaper.f a1_0 a1_1).bind fun bt342 => ((impl_DoLeapsCross.f k t330 t331 t332 bt342.1 bt342.2 t336 t339).bind fun bt344 => (if (bt344.1 != t328) = true then (laws_FnExactDoLeapsCross.j0 k l2 l3 t336 t339 true a0_0 a0_1 l0_2 t330 t331 t332) else (laws_FnExactDoLeapsCross.j0 k l2 l3 t336 t339 (bt344.2 != t329) a0_0 a0_1 l0_2 t330 t331 t332)))))) = some r := H
 have A23 := Aside0.mk A230
 clear A230
 replace H := Option.bind_eq_some_iff.mp H
 obtain ⟨t336, A240, H⟩ := H
 replace H : ((laws_toIntS.f k l3).bind fun t339 => ((laws_toLeaper.f a1_0 a1_1).bind fun bt342 => ((impl_DoLeapsCross.f k t330 t331 t332 bt342.1 bt342.2 t336 t339).bind fun bt344 => (if (bt344.1 != t328) = true then (laws_FnExactDoLeapsCross.j0 k l2 l3 t336 t339 true a0_0 a0_1 l0_2 t330 t331 t332) else (laws_FnExactDoLeapsCross.j0 k l2 l3 t336 t339 (bt344.2 != t329) a0_0 a0_1 l0_2 t330 t331 t332))))) = some r := H
 have A24 := Aside0.mk A240
 clear A240
 replace H := Option.bind_eq_some_iff.mp H
 obtain ⟨t339, A250, H⟩ := H
 replace H : ((laws_toLeaper.f a1_0 a1_1).bind fun bt342 => ((impl_DoLeapsCross.f k t330 t331 t332 bt342.1 bt342.2 t336 t339).bind fun bt344 => (if (bt344.1 != t328) = true then (laws_FnExactDoLeapsCross.j0 k l2 l3 t336 t339 true a0_0 a0_1 l0_2 t330 t331 t332) else (laws_FnExactDoLeapsCross.j0 k l2 l3 t336 t339 (bt344.2 != t329) a0_0 a0_1 l0_2 t330 t331 t332)))) = some r := H
 have A25 := Aside0.mk A250
 clear A250
 replace H := Option.bind_eq_some_iff.mp H
 obtain ⟨⟨t342, t343⟩, A260, H⟩ := H
 replace H : ((impl_DoLeapsCross.f k t330 t331 t332 t342 t343 t336 t339).bind fun bt344 => (if (bt344.1 != t328) = true then (laws_FnExactDoLeapsCross.j0 k l2 l3 t336 t339 true a0_0 a0_1 l0_2 t330 t331 t332) else (laws_FnExactDoLeapsCross.j0 k l2 l3 t336 t339 (bt344.2 != t329) a0_0 a0_1 l0_2 t330 t331 t332))) = some r := H
 have A26 := Aside0.mk A260
 clear A260
 replace H := Option.bind_eq_some_iff.mp H
 obtain ⟨⟨t344, t345⟩, A270, H⟩ := H
 replace H : (if (t344 != t328) = true then (laws_FnExactDoLeapsCross.j0 k l2 l3 t336 t339 true a0_0 a0_1 l0_2 t330 t331 t332) else (laws_FnExactDoLeapsCross.j0 k l2 l3 t336 t339 (t345 != t329) a0_0 a0_1 l0_2 t330 t331 t332)) = some r := H
 have A27 := Aside0.mk A270
 clear A270
 have HC28 := Aside0.mk H
 clear H
 go_enter Try.func5, Try.ntmps5
 try go_wp2_with (first | ((with_reducible refine gate_dst (N := 4) rfl ?_); refine box_event ?hg (N := 4) ?hd (cs := #[.int .i64 a0_0, .int .i64 a0_1, .slice A0_2 l0_2.length c0_2]) (t := 24) ?hr ?_; (case hd => rfl); (case hg => rfl); (case hr => first | (go_simp; done) | (go_simp; rfl)); intro gb312 hg w29 hbox hb; have n0_ := Aside0.mk (below_step zs11 hb); have n1_ := Aside0.mk (hbox); have n2_ := Aside0.mk ((zs38 : w.heap.size ≤ gb312)); have n3_ := Aside0.mk ((zs38 : w.heap.size ≤ gb312)); clear HB; have HB := n0_; have BK312 := n1_; have GW312 := n2_; have GE312 := n3_; clear n0_ n1_ n2_ n3_; clear hb hbox hg) | ((with_reducible refine gate_dst (N := 5) rfl ?_); refine box_event ?hg (N := 5) ?hd (cs := #[.int .i64 a1_0, .int .i64 a1_1]) (t := 26) ?hr ?_; (case hd => rfl); (case hg => rfl); (case hr => first | (go_simp; done) | (go_simp; rfl)); intro gb313 hg w30 hbox hb; have n0_ := Aside0.mk (blk_below (g := gb312) (o := .cells #[.int .i64 a0_0, .int .i64 a0_1, .slice A0_2 l0_2.length c0_2] 24 (0, 0)) zs2 hb); have n1_ := Aside0.mk (below_step zs10 hb); have n2_ := Aside0.mk (hbox); have n3_ := Aside0.mk ((zs39 : w.heap.size ≤ gb313)); have n4_ := Aside0.mk ((zs39 : w.heap.size ≤ gb313)); have n5_ := Aside0.mk ((zs36 : gb312 ≠ gb313)); have n6_ := Aside0.mk ((zs37 : gb313 ≠ gb312)); clear BK312; clear HB; have BK312 := n0_; have HB := n1_; have BK313 := n2_; have GW313 := n3_; have GE313 := n4_; have NB312_313 := n5_; have NB313_312 := n6_; clear n0_ n1_ n2_ n3_ n4_ n5_ n6_; clear hb hbox hg; have hnb31 := NB312_313.out; have hnc31 := NB313_312.out; have hcz32_0 : w30.cell? ⟨gb312, 0, none⟩ = some (.int .i64 a0_0) := (blk_cell BK312.out 0).trans rfl; have hcz32_1 : w30.cell? ⟨gb312, 1, none⟩ = some (.int .i64 a0_1) := (blk_cell BK312.out 1).trans rfl; have hcz32_2 : w30.cell? ⟨gb312, 2, none⟩ = some (.slice A0_2 l0_2.length c0_2) := (blk_cell BK312.out 2).trans rfl; have hfz32_0 := blk_frozen BK312.out 0; have hfz32_1 := blk_frozen BK312.out 1; have hfz32_2 := blk_frozen BK312.out 2) | ((with_reducible refine gate_callee (f := 7) rfl ?_); refine goesL_ (some 25) rfl rfl Try.func7 (by kernel_rfl) rfl #[.agg #[.int .i64 a0_0, .int .i64 a0_1, .slice A0_2 l0_2.length c0_2], .int .i64 1048576] rfl zs3 ?_; (with_reducible refine (laws_szBoard.calls a0_0 a0_1 _ _ l0_2 1048576 t314 _ ?side1 ?side2 A11.out).mono ?_); (case side1 => exact zs14); (case side2 => exact HC0_2.out); rintro e w33 ⟨rfl, hb⟩; refine ⟨_, rfl, ?_⟩; have n0_ := Aside0.mk (blk_below (g := gb312) (o := .cells #[.int .i64 a0_0, .int .i64 a0_1, .slice A0_2 l0_2.length c0_2] 24 (0, 0)) zs2 hb); have n1_ := Aside0.mk (blk_below (g := gb313) (o := .cells #[.int .i64 a1_0, .int .i64 a1_1] 26 (0, 0)) zs5 hb); have n2_ := Aside0.mk (below_step zs4 hb); clear BK312; clear BK313; clear HB; have BK312 := n0_; have BK313 := n1_; have HB := n2_; clear n0_ n1_ n2_; (try clear hb); (try clear hb2); (try clear hk); (try clear hi); (try clear hna_); (try clear hnb_)))
 have n0_ := Aside0.mk (blk_drew BK312.out)
 have n1_ := Aside0.mk (blk_drew BK313.out)
 have n2_ := Aside0.mk (below_drew1 HB.out)
 clear BK312
 clear BK313
 clear HB
 have BK312 := n0_
 have BK313 := n1_
 have HB := n2_
 clear n0_ n1_ n2_
 refine start_ (n := 14) (S := fun w' => w'.cell? ⟨gb312, 0, none⟩ = some (.int .i64 a0_0) ∧ w'.cell? ⟨gb312, 1, none⟩ = some (.int .i64 a0_1) ∧ w'.cell? ⟨gb312, 2, none⟩ = some (.slice A0_2 l0_2.length c0_2) ∧ w'.cell? ⟨gb313, 0, none⟩ = some (.int .i64 a1_0) ∧ w'.cell? ⟨gb313, 1, none⟩ = some (.int .i64 a1_1)) (ds := []) #[false, false, false, false, false, false, false, false, false, false, false, false, false, false] (by kernel_rfl) rfl rfl ⟨(blk_cell BK312.out 0).trans rfl, (blk_cell BK312.out 1).trans rfl, (blk_cell BK312.out 2).trans rfl, (blk_cell BK313.out 0).trans rfl, (blk_cell BK313.out 1).trans rfl⟩ (fun hHeld => ?_); refine with_tabW laws_FnExactDoLeapsCross.tab9 laws_FnExactDoLeapsCross.bits9 (fun HT_ HW_ => ?_)
 generalize w33.drew = w34 at BK312 BK313 HB hHeld ⊢
 refine pure_ (i := 4) (N := some 33) (v := ?_) (a' := ?_) (bq 14 16) rfl rfl (any_of HT_.out (by kernel_rfl)) (fun _ _ _ h => h) (Or.inl ⟨by rfl, ?_⟩) ?_ ?_
 rotate_left
 ·intro w'
  go_simp
  with_reducible rfl
 rotate_left
 ·simp only [Act.put, List.setIfInBounds_toArray, List.set_cons_zero, List.set_cons_succ, i64_w, i32_w]
  rfl
 refine pure_ (i := 6) (N := some 35) (v := ?_) (a' := ?_) (bq 14 80) rfl rfl (any_of HT_.out (by kernel_rfl)) (fun _ _ _ h => h) (Or.inl ⟨by rfl, ?_⟩) ?_ ?_
 rotate_left
 ·intro w'
  go_simp
  with_reducible rfl
 rotate_left
 ·simp only [Act.put, List.setIfInBounds_toArray, List.set_cons_zero, List.set_cons_succ, i64_w, i32_w]
  rfl
 refine take_ (i := 0) (N := some 29) (v := ?_) (a' := ?_) (bq 14 81) rfl rfl (take_ofW HT_.out HW_.out (by kernel_rfl)) (fun _ _ _ h => h) (Or.inl ⟨by rfl, ?_⟩) hHeld ?_ ?_
 rotate_left
 ·rintro w' ⟨s0, s1, s2, s3, s4⟩
  go_simp
  with_reducible rfl
 rotate_left
 ·simp only [Act.put, List.setIfInBounds_toArray, List.set_cons_zero, List.set_cons_succ, i64_w, i32_w]
  rfl
 refine take_ (i := 2) (N := some 31) (v := ?_) (a' := ?_) (bq 14 85) rfl rfl (take_ofW HT_.out HW_.out (by kernel_rfl)) (fun _ _ _ h => h) (Or.inl ⟨by rfl, ?_⟩) hHeld ?_ ?_
 rotate_left
 ·rintro w' ⟨s0, s1, s2, s3, s4⟩
  go_simp
  with_reducible rfl
 rotate_left
 ·simp only [Act.put, List.setIfInBounds_toArray, List.set_cons_zero, List.set_cons_succ, i64_w, i32_w]
  rfl
 refine one_ (i := 1) (N := some 30) (bq 14 87) rfl rfl (one_of HT_.out (by kernel_rfl)) (by decide) (fun K hK => ?_)
 refine goes_ Try.func9 (by kernel_rfl) rfl #[.agg #[.int .i64 a0_0, .int .i64 a0_1, .slice A0_2 l0_2.length c0_2]] (by rfl) rfl rfl zs3 ?_
 with_reducible refine (laws_toBoard.calls k a0_0 a0_1 _ _ l0_2 t315 t316 t317 _ ?side1 ?side2 A18.out).mono ?_
 (case side1 => exact zs14)
 (case side2 => exact HC0_2.out)
 rintro e w35 ⟨v318, rfl, ho0, hb⟩
 refine ⟨_, rfl, ?_⟩
 have n0_ := Aside0.mk (Kd.R_lower ho0 (below_size zs4))
 have n1_ := Aside0.mk (blk_below (g := gb312) (o := .cells #[.int .i64 a0_0, .int .i64 a0_1, .slice A0_2 l0_2.length c0_2] 24 (0, 0)) zs2 hb)
 have n2_ := Aside0.mk (blk_below (g := gb313) (o := .cells #[.int .i64 a1_0, .int .i64 a1_1] 26 (0, 0)) zs5 hb)
 have n3_ := Aside0.mk (below_step zs4 hb)
 clear BK312
 clear BK313
 clear HB
 have HO319 := n0_
 have BK312 := n1_
 have BK313 := n2_
 have HB := n3_
 clear n0_ n1_ n2_ n3_
 (try clear hb)
 (try clear hb2)
 (try clear hk)
 (try clear hi)
 (try clear ho0)
 (try clear hna_)
 (try clear hnb_)
 refine hK.out _ _ ⟨(blk_cell BK312.out 0).trans rfl, (blk_cell BK312.out 1).trans rfl, (blk_cell BK312.out 2).trans rfl, (blk_cell BK313.out 0).trans rfl, (blk_cell BK313.out 1).trans rfl⟩ (fun hHeld => ?_)
 clear hK K
 refine norm_ (a' := ?_) ?_ ?_
 rotate_left
 ·show Act.put _ (some 30) _ = _
  simp only [Act.put, List.setIfInBounds_toArray, List.set_cons_zero, List.set_cons_succ, i64_w, i32_w]
  rfl
 refine one_ (i := 3) (N := some 32) (bq 14 95) rfl rfl (one_of HT_.out (by kernel_rfl)) (by decide) (fun K hK => ?_)
 refine goes_ Try.func10 (by kernel_rfl) rfl #[.agg #[.int .i64 a1_0, .int .i64 a1_1]] (by rfl) rfl rfl zs3 ?_
 with_reducible refine (laws_toLeaper.calls a1_0 a1_1 t320 t321 _ A19.out).mono ?_
 rintro e w36 ⟨rfl, hb⟩
 refine ⟨_, rfl, ?_⟩
 have n0_ := Aside0.mk (Kd.R_below zs13 hb)
 have n1_ := Aside0.mk (blk_below (g := gb312) (o := .cells #[.int .i64 a0_0, .int .i64 a0_1, .slice A0_2 l0_2.length c0_2] 24 (0, 0)) zs2 hb)
 have n2_ := Aside0.mk (blk_below (g := gb313) (o := .cells #[.int .i64 a1_0, .int .i64 a1_1] 26 (0, 0)) zs5 hb)
 have n3_ := Aside0.mk (below_step zs4 hb)
 clear HO319
 clear BK312
 clear BK313
 clear HB
 have HO319 := n0_
 have BK312 := n1_
 have BK313 := n2_
 have HB := n3_
 clear n0_ n1_ n2_ n3_
 (try clear hb)
 (try clear hb2)
 (try clear hk)
 (try clear hi)
 (try clear hna_)
 (try clear hnb_)
 refine hK.out _ _ ⟨(blk_cell BK312.out 0).trans rfl, (blk_cell BK312.out 1).trans rfl, (blk_cell BK312.out 2).trans rfl, (blk_cell BK313.out 0).trans rfl, (blk_cell BK313.out 1).trans rfl⟩ (fun hHeld => ?_)
 clear hK K
 refine norm_ (a' := ?_) ?_ ?_
 rotate_left
 ·show Act.put _ (some 32) _ = _
  simp only [Act.put, List.setIfInBounds_toArray, List.set_cons_zero, List.set_cons_succ, i64_w, i32_w]
  rfl
 refine one_ (i := 5) (N := some 34) (bq 14 127) rfl rfl (one_of HT_.out (by kernel_rfl)) (by decide) (fun K hK => ?_)
 refine goes_ Try.func18 (by kernel_rfl) rfl #[.slice A2 l2.length c2] (by rfl) rfl rfl zs3 ?_
 with_reducible refine (laws_toIntS.calls k _ _ l2 t322 _ ?side1 ?side2 A20.out).mono ?_
 (case side1 => exact zs20)
 (case side2 => exact HC2.out)
 rintro e w37 ⟨v323, rfl, ho0, hb⟩
 refine ⟨_, rfl, ?_⟩
 have n0_ := Aside0.mk (Kd.R_elder' zs13 (Kd.R_base ho0) hb)
 have n1_ := Aside0.mk (Kd.R_lower (Kd.R_new' ho0 (Kd.R_lt zs13)) (below_size zs4))
 have n2_ := Aside0.mk (blk_below (g := gb312) (o := .cells #[.int .i64 a0_0, .int .i64 a0_1, .slice A0_2 l0_2.length c0_2] 24 (0, 0)) zs2 hb)
 have n3_ := Aside0.mk (blk_below (g := gb313) (o := .cells #[.int .i64 a1_0, .int .i64 a1_1] 26 (0, 0)) zs5 hb)
 have n4_ := Aside0.mk (below_step zs4 hb)
 clear HO319
 clear BK312
 clear BK313
 clear HB
 have HO319 := n0_
 have HO324 := n1_
 have BK312 := n2_
 have BK313 := n3_
 have HB := n4_
 clear n0_ n1_ n2_ n3_ n4_
 (try clear hb)
 (try clear hb2)
 (try clear hk)
 (try clear hi)
 (try clear ho0)
 (try clear hna_)
 (try clear hnb_)
 refine hK.out _ _ ⟨(blk_cell BK312.out 0).trans rfl, (blk_cell BK312.out 1).trans rfl, (blk_cell BK312.out 2).trans rfl, (blk_cell BK313.out 0).trans rfl, (blk_cell BK313.out 1).trans rfl⟩ (fun hHeld => ?_)
 clear hK K
 refine norm_ (a' := ?_) ?_ ?_
 rotate_left
 ·show Act.put _ (some 34) _ = _
  simp only [Act.put, List.setIfInBounds_toArray, List.set_cons_zero, List.set_cons_succ, i64_w, i32_w]
  rfl
 refine one_ (i := 7) (N := some 36) (bq 14 255) rfl rfl (one_of HT_.out (by kernel_rfl)) (by decide) (fun K hK => ?_)
 refine goes_ Try.func18 (by kernel_rfl) rfl #[.slice A3 l3.length c3] (by rfl) rfl rfl zs3 ?_
 with_reducible refine (laws_toIntS.calls k _ _ l3 t325 _ ?side1 ?side2 A21.out).mono ?_
 (case side1 => exact zs32)
 (case side2 => exact HC3.out)
 rintro e w38 ⟨v326, rfl, ho0, hb⟩
 refine ⟨_, rfl, ?_⟩
 have n0_ := Aside0.mk (Kd.R_elder' zs13 (Kd.R_base ho0) hb)
 have n1_ := Aside0.mk (Kd.R_elder' zs15 (Kd.R_base ho0) hb)
 have n2_ := Aside0.mk (Kd.R_lower (Kd.R_new' (Kd.R_new' ho0 (Kd.R_lt zs13)) (Kd.R_lt zs15)) (below_size zs4))
 have n3_ := Aside0.mk (blk_below (g := gb312) (o := .cells #[.int .i64 a0_0, .int .i64 a0_1, .slice A0_2 l0_2.length c0_2] 24 (0, 0)) zs2 hb)
 have n4_ := Aside0.mk (blk_below (g := gb313) (o := .cells #[.int .i64 a1_0, .int .i64 a1_1] 26 (0, 0)) zs5 hb)
 have n5_ := Aside0.mk (below_step zs4 hb)
 clear HO319
 clear HO324
 clear BK312
 clear BK313
 clear HB
 have HO319 := n0_
 have HO324 := n1_
 have HO327 := n2_
 have BK312 := n3_
 have BK313 := n4_
 have HB := n5_
 clear n0_ n1_ n2_ n3_ n4_ n5_
 (try clear hb)
 (try clear hb2)
 (try clear hk)
 (try clear hi)
 (try clear ho0)
 (try clear hna_)
 (try clear hnb_)
 obtain ⟨Ao39, co39, eo39⟩ := Kd.R_slice HO319.out
 (first | subst eo39 | (injection eo39 with f1_ f2_ f3_; have f4_ := f1_.symm; have f5_ := f3_.symm; clear f1_ f2_ f3_; subst f4_; subst f5_))
 obtain ⟨Ao40, co40, eo40⟩ := Kd.R_slice HO324.out
 (first | subst eo40 | (injection eo40 with f1_ f2_ f3_; have f4_ := f1_.symm; have f5_ := f3_.symm; clear f1_ f2_ f3_; subst f4_; subst f5_))
 obtain ⟨Ao41, co41, eo41⟩ := Kd.R_slice HO327.out
 (first | subst eo41 | (injection eo41 with f1_ f2_ f3_; have f4_ := f1_.symm; have f5_ := f3_.symm; clear f1_ f2_ f3_; subst f4_; subst f5_))
 refine hK.out _ _ ⟨(blk_cell BK312.out 0).trans rfl, (blk_cell BK312.out 1).trans rfl, (blk_cell BK312.out 2).trans rfl, (blk_cell BK313.out 0).trans rfl, (blk_cell BK313.out 1).trans rfl⟩ (fun hHeld => ?_)
 clear hK K
 refine norm_ (a' := ?_) ?_ ?_
 rotate_left
 ·show Act.put _ (some 36) _ = _
  simp only [Act.put, List.setIfInBounds_toArray, List.set_cons_zero, List.set_cons_succ, i64_w, i32_w]
  rfl
 refine one_ (i := 8) (N := some 37) (bq 14 511) rfl rfl (one_of HT_.out (by kernel_rfl)) (by decide) (fun K hK => ?_)
 refine goes_ Try.func23 (by kernel_rfl) rfl #[.agg #[.int .i64 t315, .int .i64 t316, .slice Ao39 t317.length co39], .agg #[.int .i64 t320, .int .i64 t321], .slice Ao40 t322.length co40, .slice Ao41 t325.length co41] (by rfl) rfl rfl zs3 ?_
 with_reducible refine (spec_DoLeapsCross.calls k t315 t316 _ _ t317 t320 t321 _ _ t322 _ _ t325 t328 t329 _ ?side1 ?side2 ?side3 ?side4 ?side5 ?side6 A22.out).mono ?_
 (case side1 => repeat (first | exact (Kd.R_reads' HO319.out).2.2 | (with_reducible refine Kd.C_alloc ?_ _) | (with_reducible refine Kd.C_drewN ?_ _) | (with_reducible refine Kd.C_drew ?_)))
 (case side2 => exact (Kd.R_reads' HO319.out).2.1)
 (case side3 => repeat (first | exact (Kd.R_reads' HO324.out).2.2 | (with_reducible refine Kd.C_alloc ?_ _) | (with_reducible refine Kd.C_drewN ?_ _) | (with_reducible refine Kd.C_drew ?_)))
 (case side4 => exact (Kd.R_reads' HO324.out).2.1)
 (case side5 => repeat (first | exact (Kd.R_reads' HO327.out).2.2 | (with_reducible refine Kd.C_alloc ?_ _) | (with_reducible refine Kd.C_drewN ?_ _) | (with_reducible refine Kd.C_drew ?_)))
 (case side6 => exact (Kd.R_reads' HO327.out).2.1)
 rintro e w42 ⟨rfl, hb⟩
 refine ⟨_, rfl, ?_⟩
 have n0_ := Aside0.mk (Kd.R_below zs13 hb)
 have n1_ := Aside0.mk (Kd.R_below zs15 hb)
 have n2_ := Aside0.mk (Kd.R_below zs16 hb)
 have n3_ := Aside0.mk (blk_below (g := gb312) (o := .cells #[.int .i64 a0_0, .int .i64 a0_1, .slice A0_2 l0_2.length c0_2] 24 (0, 0)) zs2 hb)
 have n4_ := Aside0.mk (blk_below (g := gb313) (o := .cells #[.int .i64 a1_0, .int .i64 a1_1] 26 (0, 0)) zs5 hb)
 have n5_ := Aside0.mk (below_step zs4 hb)
 clear HO319
 clear HO324
 clear HO327
 clear BK312
 clear BK313
 clear HB
 have HO319 := n0_
 have HO324 := n1_
 have HO327 := n2_
 have BK312 := n3_
 have BK313 := n4_
 have HB := n5_
 clear n0_ n1_ n2_ n3_ n4_ n5_
 (try clear hb)
 (try clear hb2)
 (try clear hk)
 (try clear hi)
 (try clear hna_)
 (try clear hnb_)
 refine hK.out _ _ ⟨(blk_cell BK312.out 0).trans rfl, (blk_cell BK312.out 1).trans rfl, (blk_cell BK312.out 2).trans rfl, (blk_cell BK313.out 0).trans rfl, (blk_cell BK313.out 1).trans rfl⟩ (fun hHeld => ?_)
 clear hK K
 refine norm_ (a' := ?_) ?_ ?_
 rotate_left
 ·show Act.put _ (some 37) _ = _
  simp only [Act.put, List.setIfInBounds_toArray, List.set_cons_zero, List.set_cons_succ, i64_w, i32_w]
  rfl
 refine pure_ (i := 9) (N := some 28) (v := ?_) (a' := ?_) (bq 14 1023) rfl rfl (any_of HT_.out (by kernel_rfl)) (fun _ _ _ h => h) (Or.inl ⟨by rfl, ?_⟩) ?_ ?_
 rotate_left
 ·intro w'
  go_simp
  with_reducible rfl
 rotate_left
 ·simp only [Act.put, List.setIfInBounds_toArray, List.set_cons_zero, List.set_cons_succ, i64_w, i32_w]
  rfl
 refine pure_ (i := 10) (N := some 38) (v := ?_) (a' := ?_) (bq 14 2047) rfl rfl (any_of HT_.out (by kernel_rfl)) (fun _ _ _ h => h) (Or.inl ⟨by rfl, ?_⟩) ?_ ?_
 rotate_left
 ·intro w'
  go_simp
  with_reducible rfl
 rotate_left
 ·simp only [Act.put, List.setIfInBounds_toArray, List.set_cons_zero, List.set_cons_succ, i64_w, i32_w]
  rfl
 refine pure_ (i := 11) (N := some 39) (v := ?_) (a' := ?_) (bq 14 4095) rfl rfl (any_of HT_.out (by kernel_rfl)) (fun _ _ _ h => h) (Or.inl ⟨by rfl, ?_⟩) ?_ ?_
 rotate_left
 ·intro w'
  go_simp
  with_reducible rfl
 rotate_left
 ·simp only [Act.put, List.setIfInBounds_toArray, List.set_cons_zero, List.set_cons_succ, i64_w, i32_w]
  rfl
 refine pure_ (i := 12) (N := some 10) (v := ?_) (a' := ?_) (bq 14 8191) rfl rfl (any_of HT_.out (by kernel_rfl)) (fun _ _ _ h => h) (Or.inl ⟨by rfl, ?_⟩) ?_ ?_
 rotate_left
 ·intro w'
  go_simp
  with_reducible rfl
 rotate_left
 ·simp only [Act.put, List.setIfInBounds_toArray, List.set_cons_zero, List.set_cons_succ, i64_w, i32_w]
  rfl
 refine pure_ (i := 13) (N := some 11) (v := ?_) (a' := ?_) (bq 14 16383) rfl rfl (any_of HT_.out (by kernel_rfl)) (fun _ _ _ h => h) (Or.inl ⟨by rfl, ?_⟩) ?_ ?_
 rotate_left
 ·intro w'
  go_simp
  with_reducible rfl
 rotate_left
 ·simp only [Act.put, List.setIfInBounds_toArray, List.set_cons_zero, List.set_cons_succ, i64_w, i32_w]
  rfl
 refine done_ (done_of HT_.out (by kernel_rfl)) ?_
 have hcz43_0 : w42.cell? ⟨gb312, 0, none⟩ = some (.int .i64 a0_0) := (blk_cell BK312.out 0).trans rfl
 have hcz43_1 : w42.cell? ⟨gb312, 1, none⟩ = some (.int .i64 a0_1) := (blk_cell BK312.out 1).trans rfl
 have hcz43_2 : w42.cell? ⟨gb312, 2, none⟩ = some (.slice A0_2 l0_2.length c0_2) := (blk_cell BK312.out 2).trans rfl
 have hfz43_0 := blk_frozen BK312.out 0
 have hfz43_1 := blk_frozen BK312.out 1
 have hfz43_2 := blk_frozen BK312.out 2
 try go_wp2_with (first | ((with_reducible refine gate_callee (f := 9) rfl ?_); refine goesL_ (some 41) rfl rfl Try.func9 (by kernel_rfl) rfl #[.agg #[.int .i64 a0_0, .int .i64 a0_1, .slice A0_2 l0_2.length c0_2]] rfl zs3 ?_; (with_reducible refine (laws_toBoard.calls k a0_0 a0_1 _ _ l0_2 t330 t331 t332 _ ?side1 ?side2 A23.out).mono ?_); (case side1 => exact zs14); (case side2 => exact HC0_2.out); rintro e w44 ⟨v333, rfl, ho0, hb⟩; refine ⟨_, rfl, ?_⟩; have n0_ := Aside0.mk (Kd.R_elder' zs13 (Kd.R_base ho0) hb); have n1_ := Aside0.mk (Kd.R_elder' zs15 (Kd.R_base ho0) hb); have n2_ := Aside0.mk (Kd.R_elder' zs16 (Kd.R_base ho0) hb); have n3_ := Aside0.mk (Kd.R_lower (Kd.R_new' (Kd.R_new' (Kd.R_new' ho0 (Kd.R_lt zs13)) (Kd.R_lt zs15)) (Kd.R_lt zs16)) (below_size zs4)); have n4_ := Aside0.mk (blk_below (g := gb312) (o := .cells #[.int .i64 a0_0, .int .i64 a0_1, .slice A0_2 l0_2.length c0_2] 24 (0, 0)) zs2 hb); have n5_ := Aside0.mk (blk_below (g := gb313) (o := .cells #[.int .i64 a1_0, .int .i64 a1_1] 26 (0, 0)) zs5 hb); have n6_ := Aside0.mk (below_step zs4 hb); clear HO319; clear HO324; clear HO327; clear BK312; clear BK313; clear HB; have HO319 := n0_; have HO324 := n1_; have HO327 := n2_; have HO334 := n3_; have BK312 := n4_; have BK313 := n5_; have HB := n6_; clear n0_ n1_ n2_ n3_ n4_ n5_ n6_; (try clear hb); (try clear hb2); (try clear hk); (try clear hi); (try clear ho0); (try clear hna_); (try clear hnb_)) | ((with_reducible refine gate_dst (N := 12) rfl ?_); refine box_event ?hg (N := 12) ?hd (cs := #[.int .i64 0, .int .i64 0, .slice none 0 0]) (t := 31) ?hr ?_; (case hd => rfl); (case hg => rfl); (case hr => first | (go_simp; done) | (go_simp; rfl)); intro gb335 hg w45 hbox hb; have n0_ := Aside0.mk (Kd.R_below zs13 hb); have n1_ := Aside0.mk (Kd.R_below zs15 hb); have n2_ := Aside0.mk (Kd.R_below zs16 hb); have n3_ := Aside0.mk (Kd.R_below zs25 hb); have n4_ := Aside0.mk (blk_below (g := gb312) (o := .cells #[.int .i64 a0_0, .int .i64 a0_1, .slice A0_2 l0_2.length c0_2] 24 (0, 0)) zs2 hb); have n5_ := Aside0.mk (blk_below (g := gb313) (o := .cells #[.int .i64 a1_0, .int .i64 a1_1] 26 (0, 0)) zs5 hb); have n6_ := Aside0.mk (below_step zs4 hb); have n7_ := Aside0.mk (hbox); have n8_ := Aside0.mk ((by rw [hg]; exact (below_size zs4) : w.heap.size ≤ gb335)); have n9_ := Aside0.mk ((by rw [hg]; exact (below_size zs4) : w.heap.size ≤ gb335)); have n10_ := Aside0.mk ((zs36 : gb312 ≠ gb335)); have n11_ := Aside0.mk ((zs37 : gb335 ≠ gb312)); have n12_ := Aside0.mk ((by rw [hg]; exact Nat.ne_of_lt (blk_lt (g := gb313) (o := .cells #[.int .i64 a1_0, .int .i64 a1_1] 26 (0, 0)) zs5) : gb313 ≠ gb335)); have n13_ := Aside0.mk ((by rw [hg]; exact Nat.ne_of_gt (blk_lt (g := gb313) (o := .cells #[.int .i64 a1_0, .int .i64 a1_1] 26 (0, 0)) zs5) : gb335 ≠ gb313)); clear HO319; clear HO324; clear HO327; clear HO334; clear BK312; clear BK313; clear HB; have HO319 := n0_; have HO324 := n1_; have HO327 := n2_; have HO334 := n3_; have BK312 := n4_; have BK313 := n5_; have HB := n6_; have BK335 := n7_; have GW335 := n8_; have GE335 := n9_; have NB312_335 := n10_; have NB335_312 := n11_; have NB313_335 := n12_; have NB335_313 := n13_; clear n0_ n1_ n2_ n3_ n4_ n5_ n6_ n7_ n8_ n9_ n10_ n11_ n12_ n13_; clear hb hbox hg; have hnb46 := NB335_312.out; have hnc46 := NB312_335.out; have hnb47 := NB335_313.out; have hnc47 := NB313_335.out; have hcz48_0 : w45.cell? ⟨gb335, 0, none⟩ = some (.int .i64 0) := (blk_cell BK335.out 0).trans rfl; have hcz48_1 : w45.cell? ⟨gb335, 1, none⟩ = some (.int .i64 0) := (blk_cell BK335.out 1).trans rfl; have hcz48_2 : w45.cell? ⟨gb335, 2, none⟩ = some (.slice none 0 0) := (blk_cell BK335.out 2).trans rfl; have hfz48_0 := blk_frozen BK335.out 0; have hfz48_1 := blk_frozen BK335.out 1; have hfz48_2 := blk_frozen BK335.out 2; obtain ⟨Ao49, co49, eo49⟩ := Kd.R_slice HO334.out; subst eo49) | ((with_reducible refine gate_callee (f := 18) rfl ?_); refine goesL_ (some 43) rfl rfl Try.func18 (by kernel_rfl) rfl #[.slice A2 l2.length c2] rfl zs3 ?_; (with_reducible refine (laws_toIntS.calls k _ _ l2 t336 _ ?side1 ?side2 A24.out).mono ?_); (case side1 => exact Kd.C_below HR2.out zs1); (case side2 => exact HC2.out); rintro e w50 ⟨v337, rfl, ho0, hb⟩; refine ⟨_, rfl, ?_⟩; have n0_ := Aside0.mk (Kd.R_elder' zs24 (Kd.R_base ho0) hb); have n1_ := Aside0.mk (Kd.R_elder' zs23 (Kd.R_base ho0) hb); have n2_ := Aside0.mk (Kd.R_elder' zs22 (Kd.R_base ho0) hb); have n3_ := Aside0.mk (Kd.R_elder' zs21 (Kd.R_base ho0) hb); have n4_ := Aside0.mk (Kd.R_lower (Kd.R_new' (Kd.R_new' (Kd.R_new' (Kd.R_new' ho0 (Kd.R_lt zs24)) (Kd.R_lt zs23)) (Kd.R_lt zs22)) (Kd.R_lt zs21)) (below_size zs1)); have n5_ := Aside0.mk (blk_below (g := gb312) (o := .cells #[.int .i64 a0_0, .int .i64 a0_1, .slice A0_2 l0_2.length c0_2] 24 (0, 0)) (by (with_reducible repeat (first | refine blk_drewN ?_ _ | refine blk_drew ?_ | refine blk_alloc ?_ _)); refine blk_far ?_ NB312_335.out _; (with_reducible repeat (first | refine blk_drewN ?_ _ | refine blk_drew ?_ | refine blk_alloc ?_ _)); refine blk_far ?_ NB312_335.out _; (with_reducible repeat (first | refine blk_drewN ?_ _ | refine blk_drew ?_ | refine blk_alloc ?_ _)); refine blk_far ?_ NB312_335.out _; first | exact BK312.out | ((with_reducible repeat (first | refine blk_drewN ?_ _ | refine blk_drew ?_ | refine blk_alloc ?_ _)); exact BK312.out)) hb); have n6_ := Aside0.mk (blk_below (g := gb313) (o := .cells #[.int .i64 a1_0, .int .i64 a1_1] 26 (0, 0)) (by (with_reducible repeat (first | refine blk_drewN ?_ _ | refine blk_drew ?_ | refine blk_alloc ?_ _)); refine blk_far ?_ NB313_335.out _; (with_reducible repeat (first | refine blk_drewN ?_ _ | refine blk_drew ?_ | refine blk_alloc ?_ _)); refine blk_far ?_ NB313_335.out _; (with_reducible repeat (first | refine blk_drewN ?_ _ | refine blk_drew ?_ | refine blk_alloc ?_ _)); refine blk_far ?_ NB313_335.out _; first | exact BK313.out | ((with_reducible repeat (first | refine blk_drewN ?_ _ | refine blk_drew ?_ | refine blk_alloc ?_ _)); exact BK313.out)) hb); have n7_ := Aside0.mk (blk_below (g := gb335) (o := .cells #[.int .i64 t330, .int .i64 t331, .slice Ao49 t332.length co49] 31 (0, 0)) (by (with_reducible repeat (first | refine blk_drewN ?_ _ | refine blk_drew ?_ | refine blk_alloc ?_ _)); refine blk_put (cs := #[.int .i64 t330, .int .i64 t331, .slice none 0 0]) ?_ 2 _ rfl; (with_reducible repeat (first | refine blk_drewN ?_ _ | refine blk_drew ?_ | refine blk_alloc ?_ _)); refine blk_put (cs := #[.int .i64 t330, .int .i64 0, .slice none 0 0]) ?_ 1 _ rfl; (with_reducible repeat (first | refine blk_drewN ?_ _ | refine blk_drew ?_ | refine blk_alloc ?_ _)); refine blk_put (cs := #[.int .i64 0, .int .i64 0, .slice none 0 0]) ?_ 0 _ rfl; first | exact BK335.out | ((with_reducible repeat (first | refine blk_drewN ?_ _ | refine blk_drew ?_ | refine blk_alloc ?_ _)); exact BK335.out)) hb); have n8_ := Aside0.mk (below_step zs1 hb); clear HO319; clear HO324; clear HO327; clear HO334; clear BK312; clear BK313; clear BK335; clear HB; have HO319 := n0_; have HO324 := n1_; have HO327 := n2_; have HO334 := n3_; have HO338 := n4_; have BK312 := n5_; have BK313 := n6_; have BK335 := n7_; have HB := n8_; clear n0_ n1_ n2_ n3_ n4_ n5_ n6_ n7_ n8_; (try clear hb); (try clear hb2); (try clear hk); (try clear hi); (try clear ho0); (try clear hna_); (try clear hnb_)) | ((with_reducible refine gate_callee (f := 18) rfl ?_); refine goesL_ (some 45) rfl rfl Try.func18 (by kernel_rfl) rfl #[.slice A3 l3.length c3] rfl zs3 ?_; (with_reducible refine (laws_toIntS.calls k _ _ l3 t339 _ ?side1 ?side2 A25.out).mono ?_); (case side1 => exact zs32); (case side2 => exact HC3.out); rintro e w51 ⟨v340, rfl, ho0, hb⟩; refine ⟨_, rfl, ?_⟩; have n0_ := Aside0.mk (Kd.R_elder' zs13 (Kd.R_base ho0) hb); have n1_ := Aside0.mk (Kd.R_elder' zs15 (Kd.R_base ho0) hb); have n2_ := Aside0.mk (Kd.R_elder' zs16 (Kd.R_base ho0) hb); have n3_ := Aside0.mk (Kd.R_elder' zs25 (Kd.R_base ho0) hb); have n4_ := Aside0.mk (Kd.R_elder' zs29 (Kd.R_base ho0) hb); have n5_ := Aside0.mk (Kd.R_lower (Kd.R_new' (Kd.R_new' (Kd.R_new' (Kd.R_new' (Kd.R_new' ho0 (Kd.R_lt zs13)) (Kd.R_lt zs15)) (Kd.R_lt zs16)) (Kd.R_lt zs25)) (Kd.R_lt zs29)) (below_size zs1)); have n6_ := Aside0.mk (blk_below (g := gb312) (o := .cells #[.int .i64 a0_0, .int .i64 a0_1, .slice A0_2 l0_2.length c0_2] 24 (0, 0)) zs2 hb); have n7_ := Aside0.mk (blk_below (g := gb313) (o := .cells #[.int .i64 a1_0, .int .i64 a1_1] 26 (0, 0)) zs5 hb); have n8_ := Aside0.mk (blk_below (g := gb335) (o := .cells #[.int .i64 t330, .int .i64 t331, .slice Ao49 t332.length co49] 31 (0, 0)) zs9 hb); have n9_ := Aside0.mk (below_step zs1 hb); clear HO319; clear HO324; clear HO327; clear HO334; clear HO338; clear BK312; clear BK313; clear BK335; clear HB; have HO319 := n0_; have HO324 := n1_; have HO327 := n2_; have HO334 := n3_; have HO338 := n4_; have HO341 := n5_; have BK312 := n6_; have BK313 := n7_; have BK335 := n8_; have HB := n9_; clear n0_ n1_ n2_ n3_ n4_ n5_ n6_ n7_ n8_ n9_; (try clear hb); (try clear hb2); (try clear hk); (try clear hi); (try clear ho0); (try clear hna_); (try clear hnb_)))
 have n0_ := Aside0.mk (Kd.R_drew HO319.out)
 have n1_ := Aside0.mk (Kd.R_drew HO324.out)
 have n2_ := Aside0.mk (Kd.R_drew HO327.out)
 have n3_ := Aside0.mk (Kd.R_drew HO334.out)
 have n4_ := Aside0.mk (Kd.R_drew HO338.out)
 have n5_ := Aside0.mk (Kd.R_drew HO341.out)
 have n6_ := Aside0.mk (blk_drew BK312.out)
 have n7_ := Aside0.mk (blk_drew BK313.out)
 have n8_ := Aside0.mk (blk_drew BK335.out)
 have n9_ := Aside0.mk (below_drew1 HB.out)
 clear HO319
 clear HO324
 clear HO327
 clear HO334
 clear HO338
 clear HO341
 clear BK312
 clear BK313
 clear BK335
 clear HB
 have HO319 := n0_
 have HO324 := n1_
 have HO327 := n2_
 have HO334 := n3_
 have HO338 := n4_
 have HO341 := n5_
 have BK312 := n6_
 have BK313 := n7_
 have BK335 := n8_
 have HB := n9_
 clear n0_ n1_ n2_ n3_ n4_ n5_ n6_ n7_ n8_ n9_
 refine start_ (n := 11) (S := fun w' => w'.cell? ⟨gb335, 0, none⟩ = some (.int .i64 t330) ∧ w'.cell? ⟨gb335, 1, none⟩ = some (.int .i64 t331) ∧ w'.cell? ⟨gb335, 2, none⟩ = some (.slice Ao49 t332.length co49) ∧ w'.cell? ⟨gb313, 0, none⟩ = some (.int .i64 a1_0) ∧ w'.cell? ⟨gb313, 1, none⟩ = some (.int .i64 a1_1)) (ds := []) #[false, false, false, false, false, false, false, false, false, false, false] (by kernel_rfl) rfl rfl ⟨(blk_cell BK335.out 0).trans rfl, (blk_cell BK335.out 1).trans rfl, (blk_cell BK335.out 2).trans rfl, (blk_cell BK313.out 0).trans rfl, (blk_cell BK313.out 1).trans rfl⟩ (fun hHeld => ?_); refine with_tabW laws_FnExactDoLeapsCross.tab13 laws_FnExactDoLeapsCross.bits13 (fun HT_ HW_ => ?_)
 generalize w51.drew = w52 at HO319 HO324 HO327 HO334 HO338 HO341 BK312 BK313 BK335 HB hHeld ⊢
 refine pure_ (i := 3) (N := some 50) (v := ?_) (a' := ?_) (bq 11 8) rfl rfl (any_of HT_.out (by kernel_rfl)) (fun _ _ _ h => h) (Or.inl ⟨by rfl, ?_⟩) ?_ ?_
 rotate_left
 ·intro w'
  go_simp
  with_reducible rfl
 rotate_left
 ·simp only [Act.put, List.setIfInBounds_toArray, List.set_cons_zero, List.set_cons_succ, i64_w, i32_w]
  rfl
 refine pure_ (i := 4) (N := some 51) (v := ?_) (a' := ?_) (bq 11 24) rfl rfl (any_of HT_.out (by kernel_rfl)) (fun _ _ _ h => h) (Or.inl ⟨by rfl, ?_⟩) ?_ ?_
 rotate_left
 ·intro w'
  go_simp
  with_reducible rfl
 rotate_left
 ·simp only [Act.put, List.setIfInBounds_toArray, List.set_cons_zero, List.set_cons_succ, i64_w, i32_w]
  rfl
 refine take_ (i := 0) (N := some 47) (v := ?_) (a' := ?_) (bq 11 25) rfl rfl (take_ofW HT_.out HW_.out (by kernel_rfl)) (fun _ _ _ h => h) (Or.inl ⟨by rfl, ?_⟩) hHeld ?_ ?_
 rotate_left
 ·rintro w' ⟨s0, s1, s2, s3, s4⟩
  go_simp
  with_reducible rfl
 rotate_left
 ·simp only [Act.put, List.setIfInBounds_toArray, List.set_cons_zero, List.set_cons_succ, i64_w, i32_w]
  rfl
 refine take_ (i := 1) (N := some 48) (v := ?_) (a' := ?_) (bq 11 27) rfl rfl (take_ofW HT_.out HW_.out (by kernel_rfl)) (fun _ _ _ h => h) (Or.inl ⟨by rfl, ?_⟩) hHeld ?_ ?_
 rotate_left
 ·rintro w' ⟨s0, s1, s2, s3, s4⟩
  go_simp
  with_reducible rfl
 rotate_left
 ·simp only [Act.put, List.setIfInBounds_toArray, List.set_cons_zero, List.set_cons_succ, i64_w, i32_w]
  rfl
 refine one_ (i := 2) (N := some 49) (bq 11 31) rfl rfl (one_of HT_.out (by kernel_rfl)) (by decide) (fun K hK => ?_)
 refine goes_ Try.func10 (by kernel_rfl) rfl #[.agg #[.int .i64 a1_0, .int .i64 a1_1]] (by rfl) rfl rfl zs3 ?_
 with_reducible refine (laws_toLeaper.calls a1_0 a1_1 t342 t343 _ A26.out).mono ?_
 rintro e w53 ⟨rfl, hb⟩
 refine ⟨_, rfl, ?_⟩
 have n0_ := Aside0.mk (Kd.R_below zs13 hb)
 have n1_ := Aside0.mk (Kd.R_below zs15 hb)
 have n2_ := Aside0.mk (Kd.R_below zs16 hb)
 have n3_ := Aside0.mk (Kd.R_below zs25 hb)
 have n4_ := Aside0.mk (Kd.R_below zs29 hb)
 have n5_ := Aside0.mk (Kd.R_below (by first | exact HO341.out | ((with_reducible repeat (first | apply Kd.R_alloc | apply Kd.R_drewN | apply Kd.R_drew)); exact HO341.out)) hb)
 have n6_ := Aside0.mk (blk_below (g := gb312) (o := .cells #[.int .i64 a0_0, .int .i64 a0_1, .slice A0_2 l0_2.length c0_2] 24 (0, 0)) zs2 hb)
 have n7_ := Aside0.mk (blk_below (g := gb313) (o := .cells #[.int .i64 a1_0, .int .i64 a1_1] 26 (0, 0)) zs5 hb)
 have n8_ := Aside0.mk (blk_below (g := gb335) (o := .cells #[.int .i64 t330, .int .i64 t331, .slice Ao49 t332.length co49] 31 (0, 0)) zs9 hb)
 have n9_ := Aside0.mk (below_step zs1 hb)
 clear HO319
 clear HO324
 clear HO327
 clear HO334
 clear HO338
 clear HO341
 clear BK312
 clear BK313
 clear BK335
 clear HB
 have HO319 := n0_
 have HO324 := n1_
 have HO327 := n2_
 have HO334 := n3_
 have HO338 := n4_
 have HO341 := n5_
 have BK312 := n6_
 have BK313 := n7_
 have BK335 := n8_
 have HB := n9_
 clear n0_ n1_ n2_ n3_ n4_ n5_ n6_ n7_ n8_ n9_
 (try clear hb)
 (try clear hb2)
 (try clear hk)
 (try clear hi)
 (try clear hna_)
 (try clear hnb_)
 obtain ⟨Ao54, co54, eo54⟩ := Kd.R_slice HO338.out
 (first | subst eo54 | (injection eo54 with f1_ f2_ f3_; have f4_ := f1_.symm; have f5_ := f3_.symm; clear f1_ f2_ f3_; subst f4_; subst f5_))
 obtain ⟨Ao55, co55, eo55⟩ := Kd.R_slice HO341.out
 (first | subst eo55 | (injection eo55 with f1_ f2_ f3_; have f4_ := f1_.symm; have f5_ := f3_.symm; clear f1_ f2_ f3_; subst f4_; subst f5_))
 refine hK.out _ _ ⟨(blk_cell BK335.out 0).trans rfl, (blk_cell BK335.out 1).trans rfl, (blk_cell BK335.out 2).trans rfl, (blk_cell BK313.out 0).trans rfl, (blk_cell BK313.out 1).trans rfl⟩ (fun hHeld => ?_)
 clear hK K
 refine norm_ (a' := ?_) ?_ ?_
 rotate_left
 ·show Act.put _ (some 49) _ = _
  simp only [Act.put, List.setIfInBounds_toArray, List.set_cons_zero, List.set_cons_succ, i64_w, i32_w]
  rfl
 refine one_ (i := 5) (N := some 52) (bq 11 63) rfl rfl (one_of HT_.out (by kernel_rfl)) (by decide) (fun K hK => ?_)
 refine goes_ Try.func24 (by kernel_rfl) rfl #[.agg #[.int .i64 t330, .int .i64 t331, .slice Ao49 t332.length co49], .agg #[.int .i64 t342, .int .i64 t343], .slice Ao54 t336.length co54, .slice Ao55 t339.length co55] (by rfl) rfl rfl zs3 ?_
 with_reducible refine (impl_DoLeapsCross.calls k t330 t331 _ _ t332 t342 t343 _ _ t336 _ _ t339 t344 t345 _ ?side1 ?side2 ?side3 ?side4 ?side5 ?side6 A27.out).mono ?_
 (case side1 => repeat (first | exact (Kd.R_reads' HO334.out).2.2 | (with_reducible refine Kd.C_alloc ?_ _) | (with_reducible refine Kd.C_drewN ?_ _) | (with_reducible refine Kd.C_drew ?_)))
 (case side2 => exact (Kd.R_reads' HO334.out).2.1)
 (case side3 => repeat (first | exact (Kd.R_reads' HO338.out).2.2 | (with_reducible refine Kd.C_alloc ?_ _) | (with_reducible refine Kd.C_drewN ?_ _) | (with_reducible refine Kd.C_drew ?_)))
 (case side4 => exact (Kd.R_reads' HO338.out).2.1)
 (case side5 => repeat (first | exact (Kd.R_reads' HO341.out).2.2 | (with_reducible refine Kd.C_alloc ?_ _) | (with_reducible refine Kd.C_drewN ?_ _) | (with_reducible refine Kd.C_drew ?_)))
 (case side6 => exact (Kd.R_reads' HO341.out).2.1)
 rintro e w56 ⟨rfl, hb⟩
 refine ⟨_, rfl, ?_⟩
 have n0_ := Aside0.mk (Kd.R_below zs13 hb)
 have n1_ := Aside0.mk (Kd.R_below zs15 hb)
 have n2_ := Aside0.mk (Kd.R_below zs16 hb)
 have n3_ := Aside0.mk (Kd.R_below zs25 hb)
 have n4_ := Aside0.mk (Kd.R_below zs29 hb)
 have n5_ := Aside0.mk (Kd.R_below (by first | exact HO341.out | ((with_reducible repeat (first | apply Kd.R_alloc | apply Kd.R_drewN | apply Kd.R_drew)); exact HO341.out)) hb)
 have n6_ := Aside0.mk (blk_below (g := gb312) (o := .cells #[.int .i64 a0_0, .int .i64 a0_1, .slice A0_2 l0_2.length c0_2] 24 (0, 0)) zs2 hb)
 have n7_ := Aside0.mk (blk_below (g := gb313) (o := .cells #[.int .i64 a1_0, .int .i64 a1_1] 26 (0, 0)) zs5 hb)
 have n8_ := Aside0.mk (blk_below (g := gb335) (o := .cells #[.int .i64 t330, .int .i64 t331, .slice Ao49 t332.length co49] 31 (0, 0)) zs9 hb)
 have n9_ := Aside0.mk (below_step zs1 hb)
 clear HO319
 clear HO324
 clear HO327
 clear HO334
 clear HO338
 clear HO341
 clear BK312
 clear BK313
 clear BK335
 clear HB
 have HO319 := n0_
 have HO324 := n1_
 have HO327 := n2_
 have HO334 := n3_
 have HO338 := n4_
 have HO341 := n5_
 have BK312 := n6_
 have BK313 := n7_
 have BK335 := n8_
 have HB := n9_
 clear n0_ n1_ n2_ n3_ n4_ n5_ n6_ n7_ n8_ n9_
 (try clear hb)
 (try clear hb2)
 (try clear hk)
 (try clear hi)
 (try clear hna_)
 (try clear hnb_)
 refine hK.out _ _ ⟨(blk_cell BK335.out 0).trans rfl, (blk_cell BK335.out 1).trans rfl, (blk_cell BK335.out 2).trans rfl, (blk_cell BK313.out 0).trans rfl, (blk_cell BK313.out 1).trans rfl⟩ (fun hHeld => ?_)
 clear hK K
 refine norm_ (a' := ?_) ?_ ?_
 rotate_left
 ·show Act.put _ (some 52) _ = _
  simp only [Act.put, List.setIfInBounds_toArray, List.set_cons_zero, List.set_cons_succ, i64_w, i32_w]
  rfl
 refine pure_ (i := 6) (N := some 46) (v := ?_) (a' := ?_) (bq 11 127) rfl rfl (any_of HT_.out (by kernel_rfl)) (fun _ _ _ h => h) (Or.inl ⟨by rfl, ?_⟩) ?_ ?_
 rotate_left
 ·intro w'
  go_simp
  with_reducible rfl
 rotate_left
 ·simp only [Act.put, List.setIfInBounds_toArray, List.set_cons_zero, List.set_cons_succ, i64_w, i32_w]
  rfl
 refine pure_ (i := 7) (N := some 53) (v := ?_) (a' := ?_) (bq 11 255) rfl rfl (any_of HT_.out (by kernel_rfl)) (fun _ _ _ h => h) (Or.inl ⟨by rfl, ?_⟩) ?_ ?_
 rotate_left
 ·intro w'
  go_simp
  with_reducible rfl
 rotate_left
 ·simp only [Act.put, List.setIfInBounds_toArray, List.set_cons_zero, List.set_cons_succ, i64_w, i32_w]
  rfl
 refine pure_ (i := 8) (N := some 54) (v := ?_) (a' := ?_) (bq 11 511) rfl rfl (any_of HT_.out (by kernel_rfl)) (fun _ _ _ h => h) (Or.inl ⟨by rfl, ?_⟩) ?_ ?_
 rotate_left
 ·intro w'
  go_simp
  with_reducible rfl
 rotate_left
 ·simp only [Act.put, List.setIfInBounds_toArray, List.set_cons_zero, List.set_cons_succ, i64_w, i32_w]
  rfl
 refine pure_ (i := 9) (N := some 15) (v := ?_) (a' := ?_) (bq 11 1023) rfl rfl (any_of HT_.out (by kernel_rfl)) (fun _ _ _ h => h) (Or.inl ⟨by rfl, ?_⟩) ?_ ?_
 rotate_left
 ·intro w'
  go_simp
  with_reducible rfl
 rotate_left
 ·simp only [Act.put, List.setIfInBounds_toArray, List.set_cons_zero, List.set_cons_succ, i64_w, i32_w]
  rfl
 refine pure_ (i := 10) (N := some 16) (v := ?_) (a' := ?_) (bq 11 2047) rfl rfl (any_of HT_.out (by kernel_rfl)) (fun _ _ _ h => h) (Or.inl ⟨by rfl, ?_⟩) ?_ ?_
 rotate_left
 ·intro w'
  go_simp
  with_reducible rfl
 rotate_left
 ·simp only [Act.put, List.setIfInBounds_toArray, List.set_cons_zero, List.set_cons_succ, i64_w, i32_w]
  rfl
 refine done_ (done_of HT_.out (by kernel_rfl)) ?_
 go_upto_region 14 with (fail)
 go_cut [62] (fun v62 wc => ∃ (kq : Nat) (x62_27 : Bool), v62 = .bool x62_27 ∧ Aside0 (laws_FnExactDoLeapsCross.j0 kq l2 l3 t336 t339 x62_27 a0_0 a0_1 l0_2 t330 t331 t332 = some r) ∧ Aside0 (kq ≤ k) ∧ Aside0 (Kd.R (Kd.int .i64) 3 wc w.heap.size (fun k_ => some k_ ≠ ((.slice Ao55 t339.length co55) : Value).ownBlock ∧ some k_ ≠ ((.slice Ao49 t332.length co49) : Value).ownBlock) (.slice Ao54 t336.length co54) t336) ∧ Aside0 (Kd.R (Kd.int .i64) 3 wc w.heap.size (fun k_ => some k_ ≠ ((.slice Ao54 t336.length co54) : Value).ownBlock ∧ some k_ ≠ ((.slice Ao49 t332.length co49) : Value).ownBlock) (.slice Ao55 t339.length co55) t339) ∧ Aside0 (Kd.R (Kd.int .i64) 3 wc w.heap.size (fun k_ => some k_ ≠ ((.slice Ao54 t336.length co54) : Value).ownBlock ∧ some k_ ≠ ((.slice Ao55 t339.length co55) : Value).ownBlock) (.slice Ao49 t332.length co49) t332) ∧ Aside0 (wc.heap[gb312]? = some (.cells #[.int .i64 a0_0, .int .i64 a0_1, (.slice A0_2 l0_2.length c0_2)] 24 (0, 0))) ∧ Aside0 (wc.heap[gb313]? = some (.cells #[.int .i64 a1_0, .int .i64 a1_1] 26 (0, 0))) ∧ Aside0 (wc.heap[gb335]? = some (.cells #[.int .i64 t330, .int .i64 t331, (.slice Ao49 t332.length co49)] 31 (0, 0))) ∧ Aside0 (Below w.heap.size w wc))
 case first =>
  have H := HC28.out
  clear HC28
  by_cases c57 : (t344 != t328) = true
  rotate_left
  ·rw [if_neg c57] at H
   have c57b0 : (t344 != t328) = false := by simpa using c57
   (try (have c57b1 : decide (t344 = t328) = true := by simpa using c57))
   (try (have c57b2 : (t344 == t328) = true := by simpa using c57))
   clear c57
   (first | rw [c57b0] | (simp only [i64_w, i32_w]; rw [c57b0]) | skip)
   have H' := Aside0.mk H
   clear H
   go_wp2
   go_meet
   case rel => exact ⟨_, ((t345 != t329)), (by first | rfl | (simp; done) | (simp [*]; done)), H', ⟨by first | omega | exact Nat.le_refl _⟩, ⟨zs34⟩, ⟨zs33⟩, ⟨zs35⟩, ⟨zs2⟩, ⟨zs5⟩, ⟨zs9⟩, ⟨zs1⟩⟩
  rw [if_pos c57] at H
  have c57b0 : (t344 != t328) = true := c57
  (try (have c57b1 : decide (t344 = t328) = false := by simpa using c57))
  (try (have c57b2 : (t344 == t328) = false := by simpa using c57))
  (try (have c57b3 : ¬ (t344 = t328) := by simpa using c57))
  clear c57
  (first | rw [c57b0] | (simp only [i64_w, i32_w]; rw [c57b0]) | skip)
  have H' := Aside0.mk H
  clear H
  go_wp2
  go_meet
  case rel => exact ⟨_, (true), (by first | rfl | (simp; done) | (simp [*]; done)), H', ⟨by first | omega | exact Nat.le_refl _⟩, ⟨zs34⟩, ⟨zs33⟩, ⟨zs35⟩, ⟨zs2⟩, ⟨zs5⟩, ⟨zs9⟩, ⟨zs1⟩⟩
 case rest =>
  clear HC28
  try clear c1; try clear c2; try clear p2; try clear c3; try clear c4; try clear c5; try clear c7; try clear c8; try clear c8b0; try clear c8b1; try clear c9; try clear c10; try clear c12; try clear c12b0; try clear c15; try clear c18; try clear c23; try clear c24; try clear c31; try clear c46; try clear c47; try clear c57; try clear c57b0; try clear c57b1; try clear c57b2; try clear hcz16_0; try clear hcz16_1; try clear hcz16_2; try clear hcz32_0; try clear hcz32_1; try clear hcz32_2; try clear hcz43_0; try clear hcz43_1; try clear hcz43_2; try clear hcz48_0; try clear hcz48_1; try clear hcz48_2
  try clear hfz16_0; try clear hfz16_1; try clear hfz16_2; try clear hfz32_0; try clear hfz32_1; try clear hfz32_2; try clear hfz43_0; try clear hfz43_1; try clear hfz43_2; try clear hfz48_0; try clear hfz48_1; try clear hfz48_2
  obtain ⟨kq, x62_27, rfl, HA, HJ27, HO_13, HO_14, HO_336002, BK312, BK313, BK335, HB⟩ := hcut
  cases kq with
  | zero => exact absurd HA.out (by simp [laws_FnExactDoLeapsCross.j0])
  | succ kj27 =>
   have H := HA.out
   clear HA
   simp only [laws_FnExactDoLeapsCross.j0] at H
   by_cases c58 : x62_27 = true
   ·subst c58
    have H1 : (some false) = some r := by rw [if_pos rfl] at H; exact H
    clear H
    have H := H1
    clear H1
    obtain rfl := Option.some.inj H
    go_wp2
    go_ret
    exact ⟨zs17, zs1⟩
   replace c58 := Bool.eq_false_iff.mpr c58
   subst c58
   have H1 : ((laws_toBoard.f kj27 a0_0 a0_1 l0_2).bind fun bt346 => ((laws_eqBoard.f kj27 t330 t331 t332 bt346.1 bt346.2.1 bt346.2.2).bind fun t351 => (if t351 = true then ((laws_toIntS.f kj27 l2).bind fun t352 => ((laws_eqIntS.f kj27 t336 t352).bind fun t355 => (if t355 = true then ((laws_toIntS.f kj27 l3).bind fun t356 => ((laws_eqIntS.f kj27 t339 t356).bind fun t359 => (if t359 = true then (some true) else (some false)))) else (some false)))) else (some false)))) = some r := by rw [if_neg (show ¬ (false = true) by decide)] at H; exact H
   clear H
   have H := H1
   clear H1
   replace H := Option.bind_eq_some_iff.mp H
   obtain ⟨⟨t346, t347, t348⟩, A590, H⟩ := H
   replace H : ((laws_eqBoard.f kj27 t330 t331 t332 t346 t347 t348).bind fun t351 => (if t351 = true then ((laws_toIntS.f kj27 l2).bind fun t352 => ((laws_eqIntS.f kj27 t336 t352).bind fun t355 => (if t355 = true then ((laws_toIntS.f kj27 l3).bind fun t356 => ((laws_eqIntS.f kj27 t339 t356).bind fun t359 => (if t359 = true then (some true) else (some false)))) else (some false)))) else (some false))) = some r := H
   have A59 := Aside0.mk A590
   clear A590
   replace H := Option.bind_eq_some_iff.mp H
   obtain ⟨t351, A600, H⟩ := H
   replace H : (if t351 = true then ((laws_toIntS.f kj27 l2).bind fun t352 => ((laws_eqIntS.f kj27 t336 t352).bind fun t355 => (if t355 = true then ((laws_toIntS.f kj27 l3).bind fun t356 => ((laws_eqIntS.f kj27 t339 t356).bind fun t359 => (if t359 = true then (some true) else (some false)))) else (some false)))) else (some false)) = some r := H
   have A60 := Aside0.mk A600
   clear A600
   by_cases c61 : t351 = true
   rotate_left
   ·replace c61 := Bool.eq_false_iff.mpr c61
    subst c61
    have H1 : (some false) = some r := by rw [if_neg (show ¬ (false = true) by decide)] at H; exact H
    clear H
    have H := H1
    clear H1
    obtain rfl := Option.some.inj H
    try go_wp2
    have n0_ := Aside0.mk (Kd.R_drew HO_13.out)
    have n1_ := Aside0.mk (Kd.R_drew HO_14.out)
    have n2_ := Aside0.mk (Kd.R_drew HO_336002.out)
    have n3_ := Aside0.mk (blk_drew BK312.out)
    have n4_ := Aside0.mk (blk_drew BK313.out)
    have n5_ := Aside0.mk (blk_drew BK335.out)
    have n6_ := Aside0.mk (below_drew1 HB.out)
    clear HO_13
    clear HO_14
    clear HO_336002
    clear BK312
    clear BK313
    clear BK335
    clear HB
    have HO_13 := n0_
    have HO_14 := n1_
    have HO_336002 := n2_
    have BK312 := n3_
    have BK313 := n4_
    have BK335 := n5_
    have HB := n6_
    clear n0_ n1_ n2_ n3_ n4_ n5_ n6_
    refine start_ (n := 5) (S := fun w' => w'.cell? ⟨gb335, 0, none⟩ = some (.int .i64 t330) ∧ w'.cell? ⟨gb335, 1, none⟩ = some (.int .i64 t331) ∧ w'.cell? ⟨gb335, 2, none⟩ = some (.slice Ao49 t332.length co49) ∧ w'.cell? ⟨gb312, 0, none⟩ = some (.int .i64 a0_0) ∧ w'.cell? ⟨gb312, 1, none⟩ = some (.int .i64 a0_1) ∧ w'.cell? ⟨gb312, 2, none⟩ = some (.slice A0_2 l0_2.length c0_2)) (ds := []) #[false, false, false, false, false] (by kernel_rfl) rfl rfl ⟨(blk_cell BK335.out 0).trans rfl, (blk_cell BK335.out 1).trans rfl, (blk_cell BK335.out 2).trans rfl, (blk_cell BK312.out 0).trans rfl, (blk_cell BK312.out 1).trans rfl, (blk_cell BK312.out 2).trans rfl⟩ (fun hHeld => ?_)
    generalize wc.drew = w90 at HO_13 HO_14 HO_336002 BK312 BK313 BK335 HB hHeld ⊢
    refine take_ (i := 0) (N := some 63) (v := ?_) (a' := ?_) (bq 5 1) rfl rfl (by kernel_rfl) (fun _ _ _ h => h) (Or.inl ⟨by rfl, ?_⟩) hHeld ?_ ?_
    rotate_left
    ·rintro w' ⟨s0, s1, s2, s3, s4, s5⟩
     go_simp
     with_reducible rfl
    rotate_left
    ·simp only [Act.put, List.setIfInBounds_toArray, List.set_cons_zero, List.set_cons_succ, i64_w, i32_w]
     rfl
    refine take_ (i := 1) (N := some 64) (v := ?_) (a' := ?_) (bq 5 3) rfl rfl (by kernel_rfl) (fun _ _ _ h => h) (Or.inl ⟨by rfl, ?_⟩) hHeld ?_ ?_
    rotate_left
    ·rintro w' ⟨s0, s1, s2, s3, s4, s5⟩
     go_simp
     with_reducible rfl
    rotate_left
    ·simp only [Act.put, List.setIfInBounds_toArray, List.set_cons_zero, List.set_cons_succ, i64_w, i32_w]
     rfl
    refine one_ (i := 2) (N := some 65) (bq 5 7) rfl rfl (by kernel_rfl) (by decide) (fun K hK => ?_)
    refine goes_ Try.func9 (by kernel_rfl) rfl #[.agg #[.int .i64 a0_0, .int .i64 a0_1, .slice A0_2 l0_2.length c0_2]] (by rfl) rfl rfl zs3 ?_
    with_reducible refine (laws_toBoard.calls kj27 a0_0 a0_1 _ _ l0_2 t346 t347 t348 _ ?side1 ?side2 A59.out).mono ?_
    (case side1 => exact zs14)
    (case side2 => exact HC0_2.out)
    rintro e w91 ⟨v349, rfl, ho0, hb⟩
    refine ⟨_, rfl, ?_⟩
    have n0_ := Aside0.mk (Kd.R_elder' zs8 (Kd.R_base ho0) hb)
    have n1_ := Aside0.mk (Kd.R_elder' zs7 (Kd.R_base ho0) hb)
    have n2_ := Aside0.mk (Kd.R_elder' zs6 (Kd.R_base ho0) hb)
    have n3_ := Aside0.mk (Kd.R_lower (Kd.R_new' (Kd.R_new' (Kd.R_new' ho0 (Kd.R_lt zs8)) (Kd.R_lt zs7)) (Kd.R_lt zs6)) (below_size zs1))
    have n4_ := Aside0.mk (blk_below (g := gb312) (o := .cells #[.int .i64 a0_0, .int .i64 a0_1, .slice A0_2 l0_2.length c0_2] 24 (0, 0)) zs2 hb)
    have n5_ := Aside0.mk (blk_below (g := gb313) (o := .cells #[.int .i64 a1_0, .int .i64 a1_1] 26 (0, 0)) zs5 hb)
    have n6_ := Aside0.mk (blk_below (g := gb335) (o := .cells #[.int .i64 t330, .int .i64 t331, .slice Ao49 t332.length co49] 31 (0, 0)) zs9 hb)
    have n7_ := Aside0.mk (below_step zs1 hb)
    clear HO_13
    clear HO_14
    clear HO_336002
    clear BK312
    clear BK313
    clear BK335
    clear HB
    have HO_13 := n0_
    have HO_14 := n1_
    have HO_336002 := n2_
    have HO350 := n3_
    have BK312 := n4_
    have BK313 := n5_
    have BK335 := n6_
    have HB := n7_
    clear n0_ n1_ n2_ n3_ n4_ n5_ n6_ n7_
    (try clear hb)
    (try clear hb2)
    (try clear hk)
    (try clear hi)
    (try clear ho0)
    (try clear hna_)
    (try clear hnb_)
    obtain ⟨Ao92, co92, eo92⟩ := Kd.R_slice HO350.out
    (first | subst eo92 | (injection eo92 with f1_ f2_ f3_; have f4_ := f1_.symm; have f5_ := f3_.symm; clear f1_ f2_ f3_; subst f4_; subst f5_))
    refine hK.out _ _ ⟨(blk_cell BK335.out 0).trans rfl, (blk_cell BK335.out 1).trans rfl, (blk_cell BK335.out 2).trans rfl, (blk_cell BK312.out 0).trans rfl, (blk_cell BK312.out 1).trans rfl, (blk_cell BK312.out 2).trans rfl⟩ (fun hHeld => ?_)
    clear hK K
    refine norm_ (a' := ?_) ?_ ?_
    rotate_left
    ·show Act.put _ (some 65) _ = _
     simp only [Act.put, List.setIfInBounds_toArray, List.set_cons_zero, List.set_cons_succ, i64_w, i32_w]
     rfl
    refine one_ (i := 3) (N := some 66) (bq 5 15) rfl rfl (by kernel_rfl) (by decide) (fun K hK => ?_)
    refine goes_ Try.func13 (by kernel_rfl) rfl #[.agg #[.int .i64 t330, .int .i64 t331, .slice Ao49 t332.length co49], .agg #[.int .i64 t346, .int .i64 t347, .slice Ao92 t348.length co92]] (by rfl) rfl rfl zs3 ?_
    with_reducible refine (laws_eqBoard.calls kj27 t330 t331 _ _ t332 t346 t347 _ _ t348 false _ ?side1 ?side2 ?side3 ?side4 A60.out).mono ?_
    (case side1 => exact zs18)
    (case side2 => exact (Kd.R_reads' HO_336002.out).2.1)
    (case side3 => exact zs19)
    (case side4 => exact (Kd.R_reads' HO350.out).2.1)
    rintro e w93 ⟨rfl, hb⟩
    refine ⟨_, rfl, ?_⟩
    have n0_ := Aside0.mk (Kd.R_below zs8 hb)
    have n1_ := Aside0.mk (Kd.R_below zs7 hb)
    have n2_ := Aside0.mk (Kd.R_below zs6 hb)
    have n3_ := Aside0.mk (Kd.R_below zs12 hb)
    have n4_ := Aside0.mk (blk_below (g := gb312) (o := .cells #[.int .i64 a0_0, .int .i64 a0_1, .slice A0_2 l0_2.length c0_2] 24 (0, 0)) zs2 hb)
    have n5_ := Aside0.mk (blk_below (g := gb313) (o := .cells #[.int .i64 a1_0, .int .i64 a1_1] 26 (0, 0)) zs5 hb)
    have n6_ := Aside0.mk (blk_below (g := gb335) (o := .cells #[.int .i64 t330, .int .i64 t331, .slice Ao49 t332.length co49] 31 (0, 0)) zs9 hb)
    have n7_ := Aside0.mk (below_step zs1 hb)
    clear HO_13
    clear HO_14
    clear HO_336002
    clear HO350
    clear BK312
    clear BK313
    clear BK335
    clear HB
    have HO_13 := n0_
    have HO_14 := n1_
    have HO_336002 := n2_
    have HO350 := n3_
    have BK312 := n4_
    have BK313 := n5_
    have BK335 := n6_
    have HB := n7_
    clear n0_ n1_ n2_ n3_ n4_ n5_ n6_ n7_
    (try clear hb)
    (try clear hb2)
    (try clear hk)
    (try clear hi)
    (try clear hna_)
    (try clear hnb_)
    refine hK.out _ _ ⟨(blk_cell BK335.out 0).trans rfl, (blk_cell BK335.out 1).trans rfl, (blk_cell BK335.out 2).trans rfl, (blk_cell BK312.out 0).trans rfl, (blk_cell BK312.out 1).trans rfl, (blk_cell BK312.out 2).trans rfl⟩ (fun hHeld => ?_)
    clear hK K
    refine norm_ (a' := ?_) ?_ ?_
    rotate_left
    ·show Act.put _ (some 66) _ = _
     simp only [Act.put, List.setIfInBounds_toArray, List.set_cons_zero, List.set_cons_succ, i64_w, i32_w]
     rfl
    refine pure_ (i := 4) (N := some 67) (v := ?_) (a' := ?_) (bq 5 31) rfl rfl (by kernel_rfl) (fun _ _ _ h => h) (Or.inl ⟨by rfl, ?_⟩) ?_ ?_
    rotate_left
    ·intro w'
     go_simp
     with_reducible rfl
    rotate_left
    ·simp only [Act.put, List.setIfInBounds_toArray, List.set_cons_zero, List.set_cons_succ, i64_w, i32_w]
     rfl
    refine done_ (by kernel_rfl) ?_
    try go_wp2
    go_ret
    exact ⟨zs17, zs1⟩
   subst c61
   have H1 : ((laws_toIntS.f kj27 l2).bind fun t352 => ((laws_eqIntS.f kj27 t336 t352).bind fun t355 => (if t355 = true then ((laws_toIntS.f kj27 l3).bind fun t356 => ((laws_eqIntS.f kj27 t339 t356).bind fun t359 => (if t359 = true then (some true) else (some false)))) else (some false)))) = some r := by rw [if_pos rfl] at H; exact H
   clear H
   have H := H1
   clear H1
   replace H := Option.bind_eq_some_iff.mp H
   obtain ⟨t352, A620, H⟩ := H
   replace H : ((laws_eqIntS.f kj27 t336 t352).bind fun t355 => (if t355 = true then ((laws_toIntS.f kj27 l3).bind fun t356 => ((laws_eqIntS.f kj27 t339 t356).bind fun t359 => (if t359 = true then (some true) else (some false)))) else (some false))) = some r := H
   have A62 := Aside0.mk A620
   clear A620
   replace H := Option.bind_eq_some_iff.mp H
   obtain ⟨t355, A630, H⟩ := H
   replace H : (if t355 = true then ((laws_toIntS.f kj27 l3).bind fun t356 => ((laws_eqIntS.f kj27 t339 t356).bind fun t359 => (if t359 = true then (some true) else (some false)))) else (some false)) = some r := H
   have A63 := Aside0.mk A630
   clear A630
   by_cases c64 : t355 = true
   rotate_left
   ·replace c64 := Bool.eq_false_iff.mpr c64
    subst c64
    have H1 : (some false) = some r := by rw [if_neg (show ¬ (false = true) by decide)] at H; exact H
    clear H
    have H := H1
    clear H1
    obtain rfl := Option.some.inj H
    try go_wp2
    have n0_ := Aside0.mk (Kd.R_drew HO_13.out)
    have n1_ := Aside0.mk (Kd.R_drew HO_14.out)
    have n2_ := Aside0.mk (Kd.R_drew HO_336002.out)
    have n3_ := Aside0.mk (blk_drew BK312.out)
    have n4_ := Aside0.mk (blk_drew BK313.out)
    have n5_ := Aside0.mk (blk_drew BK335.out)
    have n6_ := Aside0.mk (below_drew1 HB.out)
    clear HO_13
    clear HO_14
    clear HO_336002
    clear BK312
    clear BK313
    clear BK335
    clear HB
    have HO_13 := n0_
    have HO_14 := n1_
    have HO_336002 := n2_
    have BK312 := n3_
    have BK313 := n4_
    have BK335 := n5_
    have HB := n6_
    clear n0_ n1_ n2_ n3_ n4_ n5_ n6_
    refine start_ (n := 5) (S := fun w' => w'.cell? ⟨gb335, 0, none⟩ = some (.int .i64 t330) ∧ w'.cell? ⟨gb335, 1, none⟩ = some (.int .i64 t331) ∧ w'.cell? ⟨gb335, 2, none⟩ = some (.slice Ao49 t332.length co49) ∧ w'.cell? ⟨gb312, 0, none⟩ = some (.int .i64 a0_0) ∧ w'.cell? ⟨gb312, 1, none⟩ = some (.int .i64 a0_1) ∧ w'.cell? ⟨gb312, 2, none⟩ = some (.slice A0_2 l0_2.length c0_2)) (ds := []) #[false, false, false, false, false] (by kernel_rfl) rfl rfl ⟨(blk_cell BK335.out 0).trans rfl, (blk_cell BK335.out 1).trans rfl, (blk_cell BK335.out 2).trans rfl, (blk_cell BK312.out 0).trans rfl, (blk_cell BK312.out 1).trans rfl, (blk_cell BK312.out 2).trans rfl⟩ (fun hHeld => ?_)
    generalize wc.drew = w84 at HO_13 HO_14 HO_336002 BK312 BK313 BK335 HB hHeld ⊢
    refine take_ (i := 0) (N := some 63) (v := ?_) (a' := ?_) (bq 5 1) rfl rfl (by kernel_rfl) (fun _ _ _ h => h) (Or.inl ⟨by rfl, ?_⟩) hHeld ?_ ?_
    rotate_left
    ·rintro w' ⟨s0, s1, s2, s3, s4, s5⟩
     go_simp
     with_reducible rfl
    rotate_left
    ·simp only [Act.put, List.setIfInBounds_toArray, List.set_cons_zero, List.set_cons_succ, i64_w, i32_w]
     rfl
    refine take_ (i := 1) (N := some 64) (v := ?_) (a' := ?_) (bq 5 3) rfl rfl (by kernel_rfl) (fun _ _ _ h => h) (Or.inl ⟨by rfl, ?_⟩) hHeld ?_ ?_
    rotate_left
    ·rintro w' ⟨s0, s1, s2, s3, s4, s5⟩
     go_simp
     with_reducible rfl
    rotate_left
    ·simp only [Act.put, List.setIfInBounds_toArray, List.set_cons_zero, List.set_cons_succ, i64_w, i32_w]
     rfl
    refine one_ (i := 2) (N := some 65) (bq 5 7) rfl rfl (by kernel_rfl) (by decide) (fun K hK => ?_)
    refine goes_ Try.func9 (by kernel_rfl) rfl #[.agg #[.int .i64 a0_0, .int .i64 a0_1, .slice A0_2 l0_2.length c0_2]] (by rfl) rfl rfl zs3 ?_
    with_reducible refine (laws_toBoard.calls kj27 a0_0 a0_1 _ _ l0_2 t346 t347 t348 _ ?side1 ?side2 A59.out).mono ?_
    (case side1 => exact zs14)
    (case side2 => exact HC0_2.out)
    rintro e w85 ⟨v349, rfl, ho0, hb⟩
    refine ⟨_, rfl, ?_⟩
    have n0_ := Aside0.mk (Kd.R_elder' zs8 (Kd.R_base ho0) hb)
    have n1_ := Aside0.mk (Kd.R_elder' zs7 (Kd.R_base ho0) hb)
    have n2_ := Aside0.mk (Kd.R_elder' zs6 (Kd.R_base ho0) hb)
    have n3_ := Aside0.mk (Kd.R_lower (Kd.R_new' (Kd.R_new' (Kd.R_new' ho0 (Kd.R_lt zs8)) (Kd.R_lt zs7)) (Kd.R_lt zs6)) (below_size zs1))
    have n4_ := Aside0.mk (blk_below (g := gb312) (o := .cells #[.int .i64 a0_0, .int .i64 a0_1, .slice A0_2 l0_2.length c0_2] 24 (0, 0)) zs2 hb)
    have n5_ := Aside0.mk (blk_below (g := gb313) (o := .cells #[.int .i64 a1_0, .int .i64 a1_1] 26 (0, 0)) zs5 hb)
    have n6_ := Aside0.mk (blk_below (g := gb335) (o := .cells #[.int .i64 t330, .int .i64 t331, .slice Ao49 t332.length co49] 31 (0, 0)) zs9 hb)
    have n7_ := Aside0.mk (below_step zs1 hb)
    clear HO_13
    clear HO_14
    clear HO_336002
    clear BK312
    clear BK313
    clear BK335
    clear HB
    have HO_13 := n0_
    have HO_14 := n1_
    have HO_336002 := n2_
    have HO350 := n3_
    have BK312 := n4_
    have BK313 := n5_
    have BK335 := n6_
    have HB := n7_
    clear n0_ n1_ n2_ n3_ n4_ n5_ n6_ n7_
    (try clear hb)
    (try clear hb2)
    (try clear hk)
    (try clear hi)
    (try clear ho0)
    (try clear hna_)
    (try clear hnb_)
    obtain ⟨Ao86, co86, eo86⟩ := Kd.R_slice HO350.out
    (first | subst eo86 | (injection eo86 with f1_ f2_ f3_; have f4_ := f1_.symm; have f5_ := f3_.symm; clear f1_ f2_ f3_; subst f4_; subst f5_))
    refine hK.out _ _ ⟨(blk_cell BK335.out 0).trans rfl, (blk_cell BK335.out 1).trans rfl, (blk_cell BK335.out 2).trans rfl, (blk_cell BK312.out 0).trans rfl, (blk_cell BK312.out 1).trans rfl, (blk_cell BK312.out 2).trans rfl⟩ (fun hHeld => ?_)
    clear hK K
    refine norm_ (a' := ?_) ?_ ?_
    rotate_left
    ·show Act.put _ (some 65) _ = _
     simp only [Act.put, List.setIfInBounds_toArray, List.set_cons_zero, List.set_cons_succ, i64_w, i32_w]
     rfl
    refine one_ (i := 3) (N := some 66) (bq 5 15) rfl rfl (by kernel_rfl) (by decide) (fun K hK => ?_)
    refine goes_ Try.func13 (by kernel_rfl) rfl #[.agg #[.int .i64 t330, .int .i64 t331, .slice Ao49 t332.length co49], .agg #[.int .i64 t346, .int .i64 t347, .slice Ao86 t348.length co86]] (by rfl) rfl rfl zs3 ?_
    with_reducible refine (laws_eqBoard.calls kj27 t330 t331 _ _ t332 t346 t347 _ _ t348 true _ ?side1 ?side2 ?side3 ?side4 A60.out).mono ?_
    (case side1 => exact zs18)
    (case side2 => exact (Kd.R_reads' HO_336002.out).2.1)
    (case side3 => exact zs19)
    (case side4 => exact (Kd.R_reads' HO350.out).2.1)
    rintro e w87 ⟨rfl, hb⟩
    refine ⟨_, rfl, ?_⟩
    have n0_ := Aside0.mk (Kd.R_below zs8 hb)
    have n1_ := Aside0.mk (Kd.R_below zs7 hb)
    have n2_ := Aside0.mk (Kd.R_below zs6 hb)
    have n3_ := Aside0.mk (Kd.R_below zs12 hb)
    have n4_ := Aside0.mk (blk_below (g := gb312) (o := .cells #[.int .i64 a0_0, .int .i64 a0_1, .slice A0_2 l0_2.length c0_2] 24 (0, 0)) zs2 hb)
    have n5_ := Aside0.mk (blk_below (g := gb313) (o := .cells #[.int .i64 a1_0, .int .i64 a1_1] 26 (0, 0)) zs5 hb)
    have n6_ := Aside0.mk (blk_below (g := gb335) (o := .cells #[.int .i64 t330, .int .i64 t331, .slice Ao49 t332.length co49] 31 (0, 0)) zs9 hb)
    have n7_ := Aside0.mk (below_step zs1 hb)
    clear HO_13
    clear HO_14
    clear HO_336002
    clear HO350
    clear BK312
    clear BK313
    clear BK335
    clear HB
    have HO_13 := n0_
    have HO_14 := n1_
    have HO_336002 := n2_
    have HO350 := n3_
    have BK312 := n4_
    have BK313 := n5_
    have BK335 := n6_
    have HB := n7_
    clear n0_ n1_ n2_ n3_ n4_ n5_ n6_ n7_
    (try clear hb)
    (try clear hb2)
    (try clear hk)
    (try clear hi)
    (try clear hna_)
    (try clear hnb_)
    refine hK.out _ _ ⟨(blk_cell BK335.out 0).trans rfl, (blk_cell BK335.out 1).trans rfl, (blk_cell BK335.out 2).trans rfl, (blk_cell BK312.out 0).trans rfl, (blk_cell BK312.out 1).trans rfl, (blk_cell BK312.out 2).trans rfl⟩ (fun hHeld => ?_)
    clear hK K
    refine norm_ (a' := ?_) ?_ ?_
    rotate_left
    ·show Act.put _ (some 66) _ = _
     simp only [Act.put, List.setIfInBounds_toArray, List.set_cons_zero, List.set_cons_succ, i64_w, i32_w]
     rfl
    refine pure_ (i := 4) (N := some 67) (v := ?_) (a' := ?_) (bq 5 31) rfl rfl (by kernel_rfl) (fun _ _ _ h => h) (Or.inl ⟨by rfl, ?_⟩) ?_ ?_
    rotate_left
    ·intro w'
     go_simp
     with_reducible rfl
    rotate_left
    ·simp only [Act.put, List.setIfInBounds_toArray, List.set_cons_zero, List.set_cons_succ, i64_w, i32_w]
     rfl
    refine done_ (by kernel_rfl) ?_
    try go_wp2_with (first | ((with_reducible refine gate_callee (f := 18) rfl ?_); refine goesL_ (some 70) rfl rfl Try.func18 (by kernel_rfl) rfl #[.slice A2 l2.length c2] rfl zs3 ?_; (with_reducible refine (laws_toIntS.calls kj27 _ _ l2 t352 _ ?side1 ?side2 A62.out).mono ?_); (case side1 => exact zs20); (case side2 => exact HC2.out); rintro e w88 ⟨v353, rfl, ho0, hb⟩; refine ⟨_, rfl, ?_⟩; have n0_ := Aside0.mk (Kd.R_elder' zs8 (Kd.R_base ho0) hb); have n1_ := Aside0.mk (Kd.R_elder' zs7 (Kd.R_base ho0) hb); have n2_ := Aside0.mk (Kd.R_elder' zs6 (Kd.R_base ho0) hb); have n3_ := Aside0.mk (Kd.R_elder' zs12 (Kd.R_base ho0) hb); have n4_ := Aside0.mk (Kd.R_lower (Kd.R_new' (Kd.R_new' (Kd.R_new' (Kd.R_new' ho0 (Kd.R_lt zs8)) (Kd.R_lt zs7)) (Kd.R_lt zs6)) (Kd.R_lt zs12)) (below_size zs1)); have n5_ := Aside0.mk (blk_below (g := gb312) (o := .cells #[.int .i64 a0_0, .int .i64 a0_1, .slice A0_2 l0_2.length c0_2] 24 (0, 0)) zs2 hb); have n6_ := Aside0.mk (blk_below (g := gb313) (o := .cells #[.int .i64 a1_0, .int .i64 a1_1] 26 (0, 0)) zs5 hb); have n7_ := Aside0.mk (blk_below (g := gb335) (o := .cells #[.int .i64 t330, .int .i64 t331, .slice Ao49 t332.length co49] 31 (0, 0)) zs9 hb); have n8_ := Aside0.mk (below_step zs1 hb); clear HO_13; clear HO_14; clear HO_336002; clear HO350; clear BK312; clear BK313; clear BK335; clear HB; have HO_13 := n0_; have HO_14 := n1_; have HO_336002 := n2_; have HO350 := n3_; have HO354 := n4_; have BK312 := n5_; have BK313 := n6_; have BK335 := n7_; have HB := n8_; clear n0_ n1_ n2_ n3_ n4_ n5_ n6_ n7_ n8_; (try clear hb); (try clear hb2); (try clear hk); (try clear hi); (try clear ho0); (try clear hna_); (try clear hnb_); obtain ⟨Ao89, co89, eo89⟩ := Kd.R_slice HO354.out; subst eo89) | ((with_reducible refine gate_callee (f := 20) rfl ?_); refine goesL_ (some 71) rfl rfl Try.func20 (by kernel_rfl) rfl #[.slice Ao54 t336.length co54, .slice Ao89 t352.length co89] rfl zs3 ?_; (with_reducible refine (laws_eqIntS.calls kj27 _ _ t336 _ _ t352 false _ ?side1 ?side2 ?side3 ?side4 A63.out).mono ?_); (case side1 => exact zs26); (case side2 => exact (Kd.R_reads' HO_13.out).2.1); (case side3 => exact zs27); (case side4 => exact (Kd.R_reads' HO354.out).2.1); rintro e w' ⟨rfl, ⟨nd, rfl⟩⟩; refine ⟨_, rfl, ?_⟩))
    go_ret
    exact ⟨zs17, zs1⟩
   subst c64
   have H1 : ((laws_toIntS.f kj27 l3).bind fun t356 => ((laws_eqIntS.f kj27 t339 t356).bind fun t359 => (if t359 = true then (some true) else (some false)))) = some r := by rw [if_pos rfl] at H; exact H
   clear H
   have H := H1
   clear H1
   replace H := Option.bind_eq_some_iff.mp H
   obtain ⟨t356, A650, H⟩ := H
   replace H : ((laws_eqIntS.f kj27 t339 t356).bind fun t359 => (if t359 = true then (some true) else (some false))) = some r := H
   have A65 := Aside0.mk A650
   clear A650
   replace H := Option.bind_eq_some_iff.mp H
   obtain ⟨t359, A660, H⟩ := H
   replace H : (if t359 = true then (some true) else (some false)) = some r := H
   have A66 := Aside0.mk A660
   clear A660
   by_cases c67 : t359 = true
   ·subst c67
    have H1 : (some true) = some r := by rw [if_pos rfl] at H; exact H
    clear H
    have H := H1
    clear H1
    obtain rfl := Option.some.inj H
    try go_wp2
    have n0_ := Aside0.mk (Kd.R_drew HO_13.out)
    have n1_ := Aside0.mk (Kd.R_drew HO_14.out)
    have n2_ := Aside0.mk (Kd.R_drew HO_336002.out)
    have n3_ := Aside0.mk (blk_drew BK312.out)
    have n4_ := Aside0.mk (blk_drew BK313.out)
    have n5_ := Aside0.mk (blk_drew BK335.out)
    have n6_ := Aside0.mk (below_drew1 HB.out)
    clear HO_13
    clear HO_14
    clear HO_336002
    clear BK312
    clear BK313
    clear BK335
    clear HB
    have HO_13 := n0_
    have HO_14 := n1_
    have HO_336002 := n2_
    have BK312 := n3_
    have BK313 := n4_
    have BK335 := n5_
    have HB := n6_
    clear n0_ n1_ n2_ n3_ n4_ n5_ n6_
    refine start_ (n := 5) (S := fun w' => w'.cell? ⟨gb335, 0, none⟩ = some (.int .i64 t330) ∧ w'.cell? ⟨gb335, 1, none⟩ = some (.int .i64 t331) ∧ w'.cell? ⟨gb335, 2, none⟩ = some (.slice Ao49 t332.length co49) ∧ w'.cell? ⟨gb312, 0, none⟩ = some (.int .i64 a0_0) ∧ w'.cell? ⟨gb312, 1, none⟩ = some (.int .i64 a0_1) ∧ w'.cell? ⟨gb312, 2, none⟩ = some (.slice A0_2 l0_2.length c0_2)) (ds := []) #[false, false, false, false, false] (by kernel_rfl) rfl rfl ⟨(blk_cell BK335.out 0).trans rfl, (blk_cell BK335.out 1).trans rfl, (blk_cell BK335.out 2).trans rfl, (blk_cell BK312.out 0).trans rfl, (blk_cell BK312.out 1).trans rfl, (blk_cell BK312.out 2).trans rfl⟩ (fun hHeld => ?_)
    generalize wc.drew = w68 at HO_13 HO_14 HO_336002 BK312 BK313 BK335 HB hHeld ⊢
    refine take_ (i := 0) (N := some 63) (v := ?_) (a' := ?_) (bq 5 1) rfl rfl (by kernel_rfl) (fun _ _ _ h => h) (Or.inl ⟨by rfl, ?_⟩) hHeld ?_ ?_
    rotate_left
    ·rintro w' ⟨s0, s1, s2, s3, s4, s5⟩
     go_simp
     with_reducible rfl
    rotate_left
    ·simp only [Act.put, List.setIfInBounds_toArray, List.set_cons_zero, List.set_cons_succ, i64_w, i32_w]
     rfl
    refine take_ (i := 1) (N := some 64) (v := ?_) (a' := ?_) (bq 5 3) rfl rfl (by kernel_rfl) (fun _ _ _ h => h) (Or.inl ⟨by rfl, ?_⟩) hHeld ?_ ?_
    rotate_left
    ·rintro w' ⟨s0, s1, s2, s3, s4, s5⟩
     go_simp
     with_reducible rfl
    rotate_left
    ·simp only [Act.put, List.setIfInBounds_toArray, List.set_cons_zero, List.set_cons_succ, i64_w, i32_w]
     rfl
    refine one_ (i := 2) (N := some 65) (bq 5 7) rfl rfl (by kernel_rfl) (by decide) (fun K hK => ?_)
    refine goes_ Try.func9 (by kernel_rfl) rfl #[.agg #[.int .i64 a0_0, .int .i64 a0_1, .slice A0_2 l0_2.length c0_2]] (by rfl) rfl rfl zs3 ?_
    with_reducible refine (laws_toBoard.calls kj27 a0_0 a0_1 _ _ l0_2 t346 t347 t348 _ ?side1 ?side2 A59.out).mono ?_
    (case side1 => exact zs14)
    (case side2 => exact HC0_2.out)
    rintro e w69 ⟨v349, rfl, ho0, hb⟩
    refine ⟨_, rfl, ?_⟩
    have n0_ := Aside0.mk (Kd.R_elder' zs8 (Kd.R_base ho0) hb)
    have n1_ := Aside0.mk (Kd.R_elder' zs7 (Kd.R_base ho0) hb)
    have n2_ := Aside0.mk (Kd.R_elder' zs6 (Kd.R_base ho0) hb)
    have n3_ := Aside0.mk (Kd.R_lower (Kd.R_new' (Kd.R_new' (Kd.R_new' ho0 (Kd.R_lt zs8)) (Kd.R_lt zs7)) (Kd.R_lt zs6)) (below_size zs1))
    have n4_ := Aside0.mk (blk_below (g := gb312) (o := .cells #[.int .i64 a0_0, .int .i64 a0_1, .slice A0_2 l0_2.length c0_2] 24 (0, 0)) zs2 hb)
    have n5_ := Aside0.mk (blk_below (g := gb313) (o := .cells #[.int .i64 a1_0, .int .i64 a1_1] 26 (0, 0)) zs5 hb)
    have n6_ := Aside0.mk (blk_below (g := gb335) (o := .cells #[.int .i64 t330, .int .i64 t331, .slice Ao49 t332.length co49] 31 (0, 0)) zs9 hb)
    have n7_ := Aside0.mk (below_step zs1 hb)
    clear HO_13
    clear HO_14
    clear HO_336002
    clear BK312
    clear BK313
    clear BK335
    clear HB
    have HO_13 := n0_
    have HO_14 := n1_
    have HO_336002 := n2_
    have HO350 := n3_
    have BK312 := n4_
    have BK313 := n5_
    have BK335 := n6_
    have HB := n7_
    clear n0_ n1_ n2_ n3_ n4_ n5_ n6_ n7_
    (try clear hb)
    (try clear hb2)
    (try clear hk)
    (try clear hi)
    (try clear ho0)
    (try clear hna_)
    (try clear hnb_)
    obtain ⟨Ao70, co70, eo70⟩ := Kd.R_slice HO350.out
    (first | subst eo70 | (injection eo70 with f1_ f2_ f3_; have f4_ := f1_.symm; have f5_ := f3_.symm; clear f1_ f2_ f3_; subst f4_; subst f5_))
    refine hK.out _ _ ⟨(blk_cell BK335.out 0).trans rfl, (blk_cell BK335.out 1).trans rfl, (blk_cell BK335.out 2).trans rfl, (blk_cell BK312.out 0).trans rfl, (blk_cell BK312.out 1).trans rfl, (blk_cell BK312.out 2).trans rfl⟩ (fun hHeld => ?_)
    clear hK K
    refine norm_ (a' := ?_) ?_ ?_
    rotate_left
    ·show Act.put _ (some 65) _ = _
     simp only [Act.put, List.setIfInBounds_toArray, List.set_cons_zero, List.set_cons_succ, i64_w, i32_w]
     rfl
    refine one_ (i := 3) (N := some 66) (bq 5 15) rfl rfl (by kernel_rfl) (by decide) (fun K hK => ?_)
    refine goes_ Try.func13 (by kernel_rfl) rfl #[.agg #[.int .i64 t330, .int .i64 t331, .slice Ao49 t332.length co49], .agg #[.int .i64 t346, .int .i64 t347, .slice Ao70 t348.length co70]] (by rfl) rfl rfl zs3 ?_
    with_reducible refine (laws_eqBoard.calls kj27 t330 t331 _ _ t332 t346 t347 _ _ t348 true _ ?side1 ?side2 ?side3 ?side4 A60.out).mono ?_
    (case side1 => exact zs18)
    (case side2 => exact (Kd.R_reads' HO_336002.out).2.1)
    (case side3 => exact zs19)
    (case side4 => exact (Kd.R_reads' HO350.out).2.1)
    rintro e w71 ⟨rfl, hb⟩
    refine ⟨_, rfl, ?_⟩
    have n0_ := Aside0.mk (Kd.R_below zs8 hb)
    have n1_ := Aside0.mk (Kd.R_below zs7 hb)
    have n2_ := Aside0.mk (Kd.R_below zs6 hb)
    have n3_ := Aside0.mk (Kd.R_below zs12 hb)
    have n4_ := Aside0.mk (blk_below (g := gb312) (o := .cells #[.int .i64 a0_0, .int .i64 a0_1, .slice A0_2 l0_2.length c0_2] 24 (0, 0)) zs2 hb)
    have n5_ := Aside0.mk (blk_below (g := gb313) (o := .cells #[.int .i64 a1_0, .int .i64 a1_1] 26 (0, 0)) zs5 hb)
    have n6_ := Aside0.mk (blk_below (g := gb335) (o := .cells #[.int .i64 t330, .int .i64 t331, .slice Ao49 t332.length co49] 31 (0, 0)) zs9 hb)
    have n7_ := Aside0.mk (below_step zs1 hb)
    clear HO_13
    clear HO_14
    clear HO_336002
    clear HO350
    clear BK312
    clear BK313
    clear BK335
    clear HB
    have HO_13 := n0_
    have HO_14 := n1_
    have HO_336002 := n2_
    have HO350 := n3_
    have BK312 := n4_
    have BK313 := n5_
    have BK335 := n6_
    have HB := n7_
    clear n0_ n1_ n2_ n3_ n4_ n5_ n6_ n7_
    (try clear hb)
    (try clear hb2)
    (try clear hk)
    (try clear hi)
    (try clear hna_)
    (try clear hnb_)
    refine hK.out _ _ ⟨(blk_cell BK335.out 0).trans rfl, (blk_cell BK335.out 1).trans rfl, (blk_cell BK335.out 2).trans rfl, (blk_cell BK312.out 0).trans rfl, (blk_cell BK312.out 1).trans rfl, (blk_cell BK312.out 2).trans rfl⟩ (fun hHeld => ?_)
    clear hK K
    refine norm_ (a' := ?_) ?_ ?_
    rotate_left
    ·show Act.put _ (some 66) _ = _
     simp only [Act.put, List.setIfInBounds_toArray, List.set_cons_zero, List.set_cons_succ, i64_w, i32_w]
     rfl
    refine pure_ (i := 4) (N := some 67) (v := ?_) (a' := ?_) (bq 5 31) rfl rfl (by kernel_rfl) (fun _ _ _ h => h) (Or.inl ⟨by rfl, ?_⟩) ?_ ?_
    rotate_left
    ·intro w'
     go_simp
     with_reducible rfl
    rotate_left
    ·simp only [Act.put, List.setIfInBounds_toArray, List.set_cons_zero, List.set_cons_succ, i64_w, i32_w]
     rfl
    refine done_ (by kernel_rfl) ?_
    try go_wp2_with (first | ((with_reducible refine gate_callee (f := 18) rfl ?_); refine goesL_ (some 70) rfl rfl Try.func18 (by kernel_rfl) rfl #[.slice A2 l2.length c2] rfl zs3 ?_; (with_reducible refine (laws_toIntS.calls kj27 _ _ l2 t352 _ ?side1 ?side2 A62.out).mono ?_); (case side1 => exact zs20); (case side2 => exact HC2.out); rintro e w72 ⟨v353, rfl, ho0, hb⟩; refine ⟨_, rfl, ?_⟩; have n0_ := Aside0.mk (Kd.R_elder' zs8 (Kd.R_base ho0) hb); have n1_ := Aside0.mk (Kd.R_elder' zs7 (Kd.R_base ho0) hb); have n2_ := Aside0.mk (Kd.R_elder' zs6 (Kd.R_base ho0) hb); have n3_ := Aside0.mk (Kd.R_elder' zs12 (Kd.R_base ho0) hb); have n4_ := Aside0.mk (Kd.R_lower (Kd.R_new' (Kd.R_new' (Kd.R_new' (Kd.R_new' ho0 (Kd.R_lt zs8)) (Kd.R_lt zs7)) (Kd.R_lt zs6)) (Kd.R_lt zs12)) (below_size zs1)); have n5_ := Aside0.mk (blk_below (g := gb312) (o := .cells #[.int .i64 a0_0, .int .i64 a0_1, .slice A0_2 l0_2.length c0_2] 24 (0, 0)) zs2 hb); have n6_ := Aside0.mk (blk_below (g := gb313) (o := .cells #[.int .i64 a1_0, .int .i64 a1_1] 26 (0, 0)) zs5 hb); have n7_ := Aside0.mk (blk_below (g := gb335) (o := .cells #[.int .i64 t330, .int .i64 t331, .slice Ao49 t332.length co49] 31 (0, 0)) zs9 hb); have n8_ := Aside0.mk (below_step zs1 hb); clear HO_13; clear HO_14; clear HO_336002; clear HO350; clear BK312; clear BK313; clear BK335; clear HB; have HO_13 := n0_; have HO_14 := n1_; have HO_336002 := n2_; have HO350 := n3_; have HO354 := n4_; have BK312 := n5_; have BK313 := n6_; have BK335 := n7_; have HB := n8_; clear n0_ n1_ n2_ n3_ n4_ n5_ n6_ n7_ n8_; (try clear hb); (try clear hb2); (try clear hk); (try clear hi); (try clear ho0); (try clear hna_); (try clear hnb_); obtain ⟨Ao73, co73, eo73⟩ := Kd.R_slice HO354.out; subst eo73) | ((with_reducible refine gate_callee (f := 20) rfl ?_); refine goesL_ (some 71) rfl rfl Try.func20 (by kernel_rfl) rfl #[.slice Ao54 t336.length co54, .slice Ao73 t352.length co73] rfl zs3 ?_; (with_reducible refine (laws_eqIntS.calls kj27 _ _ t336 _ _ t352 true _ ?side1 ?side2 ?side3 ?side4 A63.out).mono ?_); (case side1 => exact zs26); (case side2 => exact (Kd.R_reads' HO_13.out).2.1); (case side3 => exact zs27); (case side4 => exact (Kd.R_reads' HO354.out).2.1); rintro e w' ⟨rfl, ⟨nd, rfl⟩⟩; refine ⟨_, rfl, ?_⟩) | ((with_reducible refine gate_callee (f := 18) rfl ?_); refine goesL_ (some 75) rfl rfl Try.func18 (by kernel_rfl) rfl #[.slice A3 l3.length c3] rfl zs3 ?_; (with_reducible refine (laws_toIntS.calls kj27 _ _ l3 t356 _ ?side1 ?side2 A65.out).mono ?_); (case side1 => exact zs40); (case side2 => exact HC3.out); rintro e w74 ⟨v357, rfl, ho0, hb⟩; refine ⟨_, rfl, ?_⟩; have n0_ := Aside0.mk (Kd.R_elder' zs8 (Kd.R_base ho0) hb); have n1_ := Aside0.mk (Kd.R_elder' zs7 (Kd.R_base ho0) hb); have n2_ := Aside0.mk (Kd.R_elder' zs6 (Kd.R_base ho0) hb); have n3_ := Aside0.mk (Kd.R_elder' zs12 (Kd.R_base ho0) hb); have n4_ := Aside0.mk (Kd.R_elder' zs28 (Kd.R_base ho0) hb); have n5_ := Aside0.mk (Kd.R_lower (Kd.R_new' (Kd.R_new' (Kd.R_new' (Kd.R_new' (Kd.R_new' ho0 (Kd.R_lt zs8)) (Kd.R_lt zs7)) (Kd.R_lt zs6)) (Kd.R_lt zs12)) (Kd.R_lt zs28)) (below_size zs1)); have n6_ := Aside0.mk (blk_below (g := gb312) (o := .cells #[.int .i64 a0_0, .int .i64 a0_1, .slice A0_2 l0_2.length c0_2] 24 (0, 0)) zs2 hb); have n7_ := Aside0.mk (blk_below (g := gb313) (o := .cells #[.int .i64 a1_0, .int .i64 a1_1] 26 (0, 0)) zs5 hb); have n8_ := Aside0.mk (blk_below (g := gb335) (o := .cells #[.int .i64 t330, .int .i64 t331, .slice Ao49 t332.length co49] 31 (0, 0)) zs9 hb); have n9_ := Aside0.mk (below_step zs1 hb); clear HO_13; clear HO_14; clear HO_336002; clear HO350; clear HO354; clear BK312; clear BK313; clear BK335; clear HB; have HO_13 := n0_; have HO_14 := n1_; have HO_336002 := n2_; have HO350 := n3_; have HO354 := n4_; have HO358 := n5_; have BK312 := n6_; have BK313 := n7_; have BK335 := n8_; have HB := n9_; clear n0_ n1_ n2_ n3_ n4_ n5_ n6_ n7_ n8_ n9_; (try clear hb); (try clear hb2); (try clear hk); (try clear hi); (try clear ho0); (try clear hna_); (try clear hnb_); obtain ⟨Ao75, co75, eo75⟩ := Kd.R_slice HO358.out; subst eo75) | ((with_reducible refine gate_callee (f := 20) rfl ?_); refine goesL_ (some 76) rfl rfl Try.func20 (by kernel_rfl) rfl #[.slice Ao55 t339.length co55, .slice Ao75 t356.length co75] rfl zs3 ?_; (with_reducible refine (laws_eqIntS.calls kj27 _ _ t339 _ _ t356 true _ ?side1 ?side2 ?side3 ?side4 A66.out).mono ?_); (case side1 => exact zs30); (case side2 => exact (Kd.R_reads' HO_14.out).2.1); (case side3 => exact zs31); (case side4 => exact (Kd.R_reads' HO358.out).2.1); rintro e w' ⟨rfl, ⟨nd, rfl⟩⟩; refine ⟨_, rfl, ?_⟩))
    go_ret
    exact ⟨zs17, zs1⟩
   replace c67 := Bool.eq_false_iff.mpr c67
   subst c67
   have H1 : (some false) = some r := by rw [if_neg (show ¬ (false = true) by decide)] at H; exact H
   clear H
   have H := H1
   clear H1
   obtain rfl := Option.some.inj H
   try go_wp2
   have n0_ := Aside0.mk (Kd.R_drew HO_13.out)
   have n1_ := Aside0.mk (Kd.R_drew HO_14.out)
   have n2_ := Aside0.mk (Kd.R_drew HO_336002.out)
   have n3_ := Aside0.mk (blk_drew BK312.out)
   have n4_ := Aside0.mk (blk_drew BK313.out)
   have n5_ := Aside0.mk (blk_drew BK335.out)
   have n6_ := Aside0.mk (below_drew1 HB.out)
   clear HO_13
   clear HO_14
   clear HO_336002
   clear BK312
   clear BK313
   clear BK335
   clear HB
   have HO_13 := n0_
   have HO_14 := n1_
   have HO_336002 := n2_
   have BK312 := n3_
   have BK313 := n4_
   have BK335 := n5_
   have HB := n6_
   clear n0_ n1_ n2_ n3_ n4_ n5_ n6_
   refine start_ (n := 5) (S := fun w' => w'.cell? ⟨gb335, 0, none⟩ = some (.int .i64 t330) ∧ w'.cell? ⟨gb335, 1, none⟩ = some (.int .i64 t331) ∧ w'.cell? ⟨gb335, 2, none⟩ = some (.slice Ao49 t332.length co49) ∧ w'.cell? ⟨gb312, 0, none⟩ = some (.int .i64 a0_0) ∧ w'.cell? ⟨gb312, 1, none⟩ = some (.int .i64 a0_1) ∧ w'.cell? ⟨gb312, 2, none⟩ = some (.slice A0_2 l0_2.length c0_2)) (ds := []) #[false, false, false, false, false] (by kernel_rfl) rfl rfl ⟨(blk_cell BK335.out 0).trans rfl, (blk_cell BK335.out 1).trans rfl, (blk_cell BK335.out 2).trans rfl, (blk_cell BK312.out 0).trans rfl, (blk_cell BK312.out 1).trans rfl, (blk_cell BK312.out 2).trans rfl⟩ (fun hHeld => ?_)
   generalize wc.drew = w76 at HO_13 HO_14 HO_336002 BK312 BK313 BK335 HB hHeld ⊢
   refine take_ (i := 0) (N := some 63) (v := ?_) (a' := ?_) (bq 5 1) rfl rfl (by kernel_rfl) (fun _ _ _ h => h) (Or.inl ⟨by rfl, ?_⟩) hHeld ?_ ?_
   rotate_left
   ·rintro w' ⟨s0, s1, s2, s3, s4, s5⟩
    go_simp
    with_reducible rfl
   rotate_left
   ·simp only [Act.put, List.setIfInBounds_toArray, List.set_cons_zero, List.set_cons_succ, i64_w, i32_w]
    rfl
   refine take_ (i := 1) (N := some 64) (v := ?_) (a' := ?_) (bq 5 3) rfl rfl (by kernel_rfl) (fun _ _ _ h => h) (Or.inl ⟨by rfl, ?_⟩) hHeld ?_ ?_
   rotate_left
   ·rintro w' ⟨s0, s1, s2, s3, s4, s5⟩
    go_simp
    with_reducible rfl
   rotate_left
   ·simp only [Act.put, List.setIfInBounds_toArray, List.set_cons_zero, List.set_cons_succ, i64_w, i32_w]
    rfl
   refine one_ (i := 2) (N := some 65) (bq 5 7) rfl rfl (by kernel_rfl) (by decide) (fun K hK => ?_)
   refine goes_ Try.func9 (by kernel_rfl) rfl #[.agg #[.int .i64 a0_0, .int .i64 a0_1, .slice A0_2 l0_2.length c0_2]] (by rfl) rfl rfl zs3 ?_
   with_reducible refine (laws_toBoard.calls kj27 a0_0 a0_1 _ _ l0_2 t346 t347 t348 _ ?side1 ?side2 A59.out).mono ?_
   (case side1 => exact zs14)
   (case side2 => exact HC0_2.out)
   rintro e w77 ⟨v349, rfl, ho0, hb⟩
   refine ⟨_, rfl, ?_⟩
   have n0_ := Aside0.mk (Kd.R_elder' zs8 (Kd.R_base ho0) hb)
   have n1_ := Aside0.mk (Kd.R_elder' zs7 (Kd.R_base ho0) hb)
   have n2_ := Aside0.mk (Kd.R_elder' zs6 (Kd.R_base ho0) hb)
   have n3_ := Aside0.mk (Kd.R_lower (Kd.R_new' (Kd.R_new' (Kd.R_new' ho0 (Kd.R_lt zs8)) (Kd.R_lt zs7)) (Kd.R_lt zs6)) (below_size zs1))
   have n4_ := Aside0.mk (blk_below (g := gb312) (o := .cells #[.int .i64 a0_0, .int .i64 a0_1, .slice A0_2 l0_2.length c0_2] 24 (0, 0)) zs2 hb)
   have n5_ := Aside0.mk (blk_below (g := gb313) (o := .cells #[.int .i64 a1_0, .int .i64 a1_1] 26 (0, 0)) zs5 hb)
   have n6_ := Aside0.mk (blk_below (g := gb335) (o := .cells #[.int .i64 t330, .int .i64 t331, .slice Ao49 t332.length co49] 31 (0, 0)) zs9 hb)
   have n7_ := Aside0.mk (below_step zs1 hb)
   clear HO_13
   clear HO_14
   clear HO_336002
   clear BK312
   clear BK313
   clear BK335
   clear HB
   have HO_13 := n0_
   have HO_14 := n1_
   have HO_336002 := n2_
   have HO350 := n3_
   have BK312 := n4_
   have BK313 := n5_
   have BK335 := n6_
   have HB := n7_
   clear n0_ n1_ n2_ n3_ n4_ n5_ n6_ n7_
   (try clear hb)
   (try clear hb2)
   (try clear hk)
   (try clear hi)
   (try clear ho0)
   (try clear hna_)
   (try clear hnb_)
   obtain ⟨Ao78, co78, eo78⟩ := Kd.R_slice HO350.out
   (first | subst eo78 | (injection eo78 with f1_ f2_ f3_; have f4_ := f1_.symm; have f5_ := f3_.symm; clear f1_ f2_ f3_; subst f4_; subst f5_))
   refine hK.out _ _ ⟨(blk_cell BK335.out 0).trans rfl, (blk_cell BK335.out 1).trans rfl, (blk_cell BK335.out 2).trans rfl, (blk_cell BK312.out 0).trans rfl, (blk_cell BK312.out 1).trans rfl, (blk_cell BK312.out 2).trans rfl⟩ (fun hHeld => ?_)
   clear hK K
   refine norm_ (a' := ?_) ?_ ?_
   rotate_left
   ·show Act.put _ (some 65) _ = _
    simp only [Act.put, List.setIfInBounds_toArray, List.set_cons_zero, List.set_cons_succ, i64_w, i32_w]
    rfl
   refine one_ (i := 3) (N := some 66) (bq 5 15) rfl rfl (by kernel_rfl) (by decide) (fun K hK => ?_)
   refine goes_ Try.func13 (by kernel_rfl) rfl #[.agg #[.int .i64 t330, .int .i64 t331, .slice Ao49 t332.length co49], .agg #[.int .i64 t346, .int .i64 t347, .slice Ao78 t348.length co78]] (by rfl) rfl rfl zs3 ?_
   with_reducible refine (laws_eqBoard.calls kj27 t330 t331 _ _ t332 t346 t347 _ _ t348 true _ ?side1 ?side2 ?side3 ?side4 A60.out).mono ?_
   (case side1 => exact zs18)
   (case side2 => exact (Kd.R_reads' HO_336002.out).2.1)
   (case side3 => exact zs19)
   (case side4 => exact (Kd.R_reads' HO350.out).2.1)
   rintro e w79 ⟨rfl, hb⟩
   refine ⟨_, rfl, ?_⟩
   have n0_ := Aside0.mk (Kd.R_below zs8 hb)
   have n1_ := Aside0.mk (Kd.R_below zs7 hb)
   have n2_ := Aside0.mk (Kd.R_below zs6 hb)
   have n3_ := Aside0.mk (Kd.R_below zs12 hb)
   have n4_ := Aside0.mk (blk_below (g := gb312) (o := .cells #[.int .i64 a0_0, .int .i64 a0_1, .slice A0_2 l0_2.length c0_2] 24 (0, 0)) zs2 hb)
   have n5_ := Aside0.mk (blk_below (g := gb313) (o := .cells #[.int .i64 a1_0, .int .i64 a1_1] 26 (0, 0)) zs5 hb)
   have n6_ := Aside0.mk (blk_below (g := gb335) (o := .cells #[.int .i64 t330, .int .i64 t331, .slice Ao49 t332.length co49] 31 (0, 0)) zs9 hb)
   have n7_ := Aside0.mk (below_step zs1 hb)
   clear HO_13
   clear HO_14
   clear HO_336002
   clear HO350
   clear BK312
   clear BK313
   clear BK335
   clear HB
   have HO_13 := n0_
   have HO_14 := n1_
   have HO_336002 := n2_
   have HO350 := n3_
   have BK312 := n4_
   have BK313 := n5_
   have BK335 := n6_
   have HB := n7_
   clear n0_ n1_ n2_ n3_ n4_ n5_ n6_ n7_
   (try clear hb)
   (try clear hb2)
   (try clear hk)
   (try clear hi)
   (try clear hna_)
   (try clear hnb_)
   refine hK.out _ _ ⟨(blk_cell BK335.out 0).trans rfl, (blk_cell BK335.out 1).trans rfl, (blk_cell BK335.out 2).trans rfl, (blk_cell BK312.out 0).trans rfl, (blk_cell BK312.out 1).trans rfl, (blk_cell BK312.out 2).trans rfl⟩ (fun hHeld => ?_)
   clear hK K
   refine norm_ (a' := ?_) ?_ ?_
   rotate_left
   ·show Act.put _ (some 66) _ = _
    simp only [Act.put, List.setIfInBounds_toArray, List.set_cons_zero, List.set_cons_succ, i64_w, i32_w]
    rfl
   refine pure_ (i := 4) (N := some 67) (v := ?_) (a' := ?_) (bq 5 31) rfl rfl (by kernel_rfl) (fun _ _ _ h => h) (Or.inl ⟨by rfl, ?_⟩) ?_ ?_
   rotate_left
   ·intro w'
    go_simp
    with_reducible rfl
   rotate_left
   ·simp only [Act.put, List.setIfInBounds_toArray, List.set_cons_zero, List.set_cons_succ, i64_w, i32_w]
    rfl
   refine done_ (by kernel_rfl) ?_
   try go_wp2_with (first | ((with_reducible refine gate_callee (f := 18) rfl ?_); refine goesL_ (some 70) rfl rfl Try.func18 (by kernel_rfl) rfl #[.slice A2 l2.length c2] rfl zs3 ?_; (with_reducible refine (laws_toIntS.calls kj27 _ _ l2 t352 _ ?side1 ?side2 A62.out).mono ?_); (case side1 => exact zs20); (case side2 => exact HC2.out); rintro e w80 ⟨v353, rfl, ho0, hb⟩; refine ⟨_, rfl, ?_⟩; have n0_ := Aside0.mk (Kd.R_elder' zs8 (Kd.R_base ho0) hb); have n1_ := Aside0.mk (Kd.R_elder' zs7 (Kd.R_base ho0) hb); have n2_ := Aside0.mk (Kd.R_elder' zs6 (Kd.R_base ho0) hb); have n3_ := Aside0.mk (Kd.R_elder' zs12 (Kd.R_base ho0) hb); have n4_ := Aside0.mk (Kd.R_lower (Kd.R_new' (Kd.R_new' (Kd.R_new' (Kd.R_new' ho0 (Kd.R_lt zs8)) (Kd.R_lt zs7)) (Kd.R_lt zs6)) (Kd.R_lt zs12)) (below_size zs1)); have n5_ := Aside0.mk (blk_below (g := gb312) (o := .cells #[.int .i64 a0_0, .int .i64 a0_1, .slice A0_2 l0_2.length c0_2] 24 (0, 0)) zs2 hb); have n6_ := Aside0.mk (blk_below (g := gb313) (o := .cells #[.int .i64 a1_0, .int .i64 a1_1] 26 (0, 0)) zs5 hb); have n7_ := Aside0.mk (blk_below (g := gb335) (o := .cells #[.int .i64 t330, .int .i64 t331, .slice Ao49 t332.length co49] 31 (0, 0)) zs9 hb); have n8_ := Aside0.mk (below_step zs1 hb); clear HO_13; clear HO_14; clear HO_336002; clear HO350; clear BK312; clear BK313; clear BK335; clear HB; have HO_13 := n0_; have HO_14 := n1_; have HO_336002 := n2_; have HO350 := n3_; have HO354 := n4_; have BK312 := n5_; have BK313 := n6_; have BK335 := n7_; have HB := n8_; clear n0_ n1_ n2_ n3_ n4_ n5_ n6_ n7_ n8_; (try clear hb); (try clear hb2); (try clear hk); (try clear hi); (try clear ho0); (try clear hna_); (try clear hnb_); obtain ⟨Ao81, co81, eo81⟩ := Kd.R_slice HO354.out; subst eo81) | ((with_reducible refine gate_callee (f := 20) rfl ?_); refine goesL_ (some 71) rfl rfl Try.func20 (by kernel_rfl) rfl #[.slice Ao54 t336.length co54, .slice Ao81 t352.length co81] rfl zs3 ?_; (with_reducible refine (laws_eqIntS.calls kj27 _ _ t336 _ _ t352 true _ ?side1 ?side2 ?side3 ?side4 A63.out).mono ?_); (case side1 => exact zs26); (case side2 => exact (Kd.R_reads' HO_13.out).2.1); (case side3 => exact zs27); (case side4 => exact (Kd.R_reads' HO354.out).2.1); rintro e w' ⟨rfl, ⟨nd, rfl⟩⟩; refine ⟨_, rfl, ?_⟩) | ((with_reducible refine gate_callee (f := 18) rfl ?_); refine goesL_ (some 75) rfl rfl Try.func18 (by kernel_rfl) rfl #[.slice A3 l3.length c3] rfl zs3 ?_; (with_reducible refine (laws_toIntS.calls kj27 _ _ l3 t356 _ ?side1 ?side2 A65.out).mono ?_); (case side1 => exact zs40); (case side2 => exact HC3.out); rintro e w82 ⟨v357, rfl, ho0, hb⟩; refine ⟨_, rfl, ?_⟩; have n0_ := Aside0.mk (Kd.R_elder' zs8 (Kd.R_base ho0) hb); have n1_ := Aside0.mk (Kd.R_elder' zs7 (Kd.R_base ho0) hb); have n2_ := Aside0.mk (Kd.R_elder' zs6 (Kd.R_base ho0) hb); have n3_ := Aside0.mk (Kd.R_elder' zs12 (Kd.R_base ho0) hb); have n4_ := Aside0.mk (Kd.R_elder' zs28 (Kd.R_base ho0) hb); have n5_ := Aside0.mk (Kd.R_lower (Kd.R_new' (Kd.R_new' (Kd.R_new' (Kd.R_new' (Kd.R_new' ho0 (Kd.R_lt zs8)) (Kd.R_lt zs7)) (Kd.R_lt zs6)) (Kd.R_lt zs12)) (Kd.R_lt zs28)) (below_size zs1)); have n6_ := Aside0.mk (blk_below (g := gb312) (o := .cells #[.int .i64 a0_0, .int .i64 a0_1, .slice A0_2 l0_2.length c0_2] 24 (0, 0)) zs2 hb); have n7_ := Aside0.mk (blk_below (g := gb313) (o := .cells #[.int .i64 a1_0, .int .i64 a1_1] 26 (0, 0)) zs5 hb); have n8_ := Aside0.mk (blk_below (g := gb335) (o := .cells #[.int .i64 t330, .int .i64 t331, .slice Ao49 t332.length co49] 31 (0, 0)) zs9 hb); have n9_ := Aside0.mk (below_step zs1 hb); clear HO_13; clear HO_14; clear HO_336002; clear HO350; clear HO354; clear BK312; clear BK313; clear BK335; clear HB; have HO_13 := n0_; have HO_14 := n1_; have HO_336002 := n2_; have HO350 := n3_; have HO354 := n4_; have HO358 := n5_; have BK312 := n6_; have BK313 := n7_; have BK335 := n8_; have HB := n9_; clear n0_ n1_ n2_ n3_ n4_ n5_ n6_ n7_ n8_ n9_; (try clear hb); (try clear hb2); (try clear hk); (try clear hi); (try clear ho0); (try clear hna_); (try clear hnb_); obtain ⟨Ao83, co83, eo83⟩ := Kd.R_slice HO358.out; subst eo83) | ((with_reducible refine gate_callee (f := 20) rfl ?_); refine goesL_ (some 76) rfl rfl Try.func20 (by kernel_rfl) rfl #[.slice Ao55 t339.length co55, .slice Ao83 t356.length co83] rfl zs3 ?_; (with_reducible refine (laws_eqIntS.calls kj27 _ _ t339 _ _ t356 false _ ?side1 ?side2 ?side3 ?side4 A66.out).mono ?_); (case side1 => exact zs30); (case side2 => exact (Kd.R_reads' HO_14.out).2.1); (case side3 => exact zs31); (case side4 => exact (Kd.R_reads' HO358.out).2.1); rintro e w' ⟨rfl, ⟨nd, rfl⟩⟩; refine ⟨_, rfl, ?_⟩))
   go_ret
   exact ⟨zs17, zs1⟩

end Go.Proofs.Ytemaokhlolimhaa.Q

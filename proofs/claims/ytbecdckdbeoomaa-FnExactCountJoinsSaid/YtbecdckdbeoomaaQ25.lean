/- Written by a program of this session: functions of the translation as plain Lean functions, each with a proof that the call does what the plain function says; the conditions stand in each theorem. -/
import Derived.Test.YtbecdckdbeoomaaQ0
import Derived.Test.YtbecdckdbeoomaaQ1
import Derived.Test.YtbecdckdbeoomaaQ2
import Derived.Test.YtbecdckdbeoomaaQ5
import Derived.Test.YtbecdckdbeoomaaQ23
import Derived.Test.YtbecdckdbeoomaaQ24
namespace Go.Proofs.Ytbecdckdbeoomaa.Q
open Go.RowKit Go.Proofs.YtbecdckdbeoomaaW.PrintWords Go.Proofs.YtbecdckdbeoomaaW.PrintLast Go.Proofs.YtbecdckdbeoomaaW.PrintMore
attribute [local go_sem] max2_int min2_int max_two min_two max_three min_three max_four min_four   -- for this text's walks alone
set_option linter.unusedVariables false
set_option linter.unusedSimpArgs false

theorem zz1 {p : Prop} (h : p := by repeat (first | (with_reducible first | exact HB.out | apply below_alloc | apply pw_below_drewN | apply below_drew1 | refine below_set ?_ GE581.out | refine below_set ?_ GE582.out | refine below_set ?_ GE604.out) | exact HB.out)) : p := h
theorem zz2 {p : Prop} (h : p := by first | exact BK581.out | ((with_reducible repeat (first | refine blk_drewN ?_ _ | refine blk_drew ?_ | refine blk_alloc ?_ _)); exact BK581.out)) : p := h
theorem zz3 {p : Prop} (h : p := by (try simp only [List.map_toArray, List.map_cons, List.map_nil]); first | done | rfl | (simp only [List.length_drop, List.length_take]; rfl)) : p := h
theorem zz4 {p : Prop} (h : p := by repeat (first | (with_reducible first | exact HB.out | apply below_alloc | apply pw_below_drewN | apply below_drew1 | refine below_set ?_ GE581.out | refine below_set ?_ GE582.out) | exact HB.out)) : p := h
theorem zz5 {p : Prop} (h : p := by first | exact BK582.out | ((with_reducible repeat (first | refine blk_drewN ?_ _ | refine blk_drew ?_ | refine blk_alloc ?_ _)); exact BK582.out)) : p := h
theorem zz6 {p : Prop} (h : p := by first | exact HO_605002.out | ((with_reducible repeat (first | apply Kd.R_alloc | apply Kd.R_drewN | apply Kd.R_drew)); exact HO_605002.out)) : p := h
theorem zz7 {p : Prop} (h : p := by first | exact HO_14.out | ((with_reducible repeat (first | apply Kd.R_alloc | apply Kd.R_drewN | apply Kd.R_drew)); exact HO_14.out)) : p := h
theorem zz8 {p : Prop} (h : p := by first | exact HO_13.out | ((with_reducible repeat (first | apply Kd.R_alloc | apply Kd.R_drewN | apply Kd.R_drew)); exact HO_13.out)) : p := h
theorem zz9 {p : Prop} (h : p := by first | exact BK604.out | ((with_reducible repeat (first | refine blk_drewN ?_ _ | refine blk_drew ?_ | refine blk_alloc ?_ _)); exact BK604.out)) : p := h
theorem zz10 {p : Prop} (h : p := by repeat (first | (with_reducible first | exact HB.out | apply below_alloc | apply pw_below_drewN | apply below_drew1 | refine below_set ?_ GE581.out) | exact HB.out)) : p := h
theorem zz11 {p : Prop} (h : p := by repeat (first | (with_reducible first | exact HB.out | apply below_alloc | apply pw_below_drewN | apply below_drew1) | exact HB.out)) : p := h
theorem zz12 {p : Prop} (h : p := by first | exact HO619.out | ((with_reducible repeat (first | apply Kd.R_alloc | apply Kd.R_drewN | apply Kd.R_drew)); exact HO619.out)) : p := h
theorem zz13 {p : Prop} (h : p := by first | exact HO588.out | ((with_reducible repeat (first | apply Kd.R_alloc | apply Kd.R_drewN | apply Kd.R_drew)); exact HO588.out)) : p := h
theorem zz14 {p : Prop} (h : p := by repeat (first | exact (Kd.C_below HR0_2.out HB.out) | (with_reducible refine Kd.C_alloc ?_ _) | (with_reducible refine Kd.C_drewN ?_ _) | (with_reducible refine Kd.C_drew ?_))) : p := h
theorem zz15 {p : Prop} (h : p := by first | exact HO593.out | ((with_reducible repeat (first | apply Kd.R_alloc | apply Kd.R_drewN | apply Kd.R_drew)); exact HO593.out)) : p := h
theorem zz16 {p : Prop} (h : p := by first | exact HO596.out | ((with_reducible repeat (first | apply Kd.R_alloc | apply Kd.R_drewN | apply Kd.R_drew)); exact HO596.out)) : p := h
theorem zz17 {p : Prop} (h : p := by first | rfl | (simp [errW_none, errW_some] <;> rfl) | (simp [*, errW_none, errW_some] <;> rfl)) : p := h
theorem zz18 {p : Prop} (h : p := by repeat (first | exact (Kd.R_reads' HO_605002.out).2.2 | (with_reducible refine Kd.C_alloc ?_ _) | (with_reducible refine Kd.C_drewN ?_ _) | (with_reducible refine Kd.C_drew ?_))) : p := h
theorem zz19 {p : Prop} (h : p := by repeat (first | exact (Kd.R_reads' HO619.out).2.2 | (with_reducible refine Kd.C_alloc ?_ _) | (with_reducible refine Kd.C_drewN ?_ _) | (with_reducible refine Kd.C_drew ?_))) : p := h
theorem zz20 {p : Prop} (h : p := by repeat (first | exact (Kd.C_below HR2.out HB.out) | (with_reducible refine Kd.C_alloc ?_ _) | (with_reducible refine Kd.C_drewN ?_ _) | (with_reducible refine Kd.C_drew ?_))) : p := h
theorem zz21 {p : Prop} (h : p := by (with_reducible repeat (first | apply Kd.R_alloc | apply Kd.R_drewN | apply Kd.R_drew)); exact (Kd.R_mono (Kd.R_far (p := ⟨gb604, 2, none⟩) (Kd.R_far (p := ⟨gb604, 1, none⟩) (Kd.R_far (p := ⟨gb604, 0, none⟩) (Kd.R_types HO603.out BK604.out (by decide)) (fun _ hk => hk.2) (.int .i64 t599)) (fun _ hk => hk.2) (.int .i64 t600)) (fun _ hk => hk.2) (.slice Ao49 t601.length co49)) (fun _ h_ => h_.1))) : p := h
theorem zz22 {p : Prop} (h : p := by (with_reducible repeat (first | apply Kd.R_alloc | apply Kd.R_drewN | apply Kd.R_drew)); exact (Kd.R_mono (Kd.R_far (p := ⟨gb604, 2, none⟩) (Kd.R_far (p := ⟨gb604, 1, none⟩) (Kd.R_far (p := ⟨gb604, 0, none⟩) (Kd.R_types HO596.out BK604.out (by decide)) (fun _ hk => hk.2) (.int .i64 t599)) (fun _ hk => hk.2) (.int .i64 t600)) (fun _ hk => hk.2) (.slice Ao49 t601.length co49)) (fun _ h_ => h_.1))) : p := h
theorem zz23 {p : Prop} (h : p := by (with_reducible repeat (first | apply Kd.R_alloc | apply Kd.R_drewN | apply Kd.R_drew)); exact (Kd.R_mono (Kd.R_far (p := ⟨gb604, 2, none⟩) (Kd.R_far (p := ⟨gb604, 1, none⟩) (Kd.R_far (p := ⟨gb604, 0, none⟩) (Kd.R_types HO593.out BK604.out (by decide)) (fun _ hk => hk.2) (.int .i64 t599)) (fun _ hk => hk.2) (.int .i64 t600)) (fun _ hk => hk.2) (.slice Ao49 t601.length co49)) (fun _ h_ => h_.1))) : p := h
theorem zz24 {p : Prop} (h : p := by (with_reducible repeat (first | apply Kd.R_alloc | apply Kd.R_drewN | apply Kd.R_drew)); exact (Kd.R_mono (Kd.R_far (p := ⟨gb604, 2, none⟩) (Kd.R_far (p := ⟨gb604, 1, none⟩) (Kd.R_far (p := ⟨gb604, 0, none⟩) (Kd.R_types HO588.out BK604.out (by decide)) (fun _ hk => hk.2) (.int .i64 t599)) (fun _ hk => hk.2) (.int .i64 t600)) (fun _ hk => hk.2) (.slice Ao49 t601.length co49)) (fun _ h_ => h_.1))) : p := h
theorem zz25 {p : Prop} (h : p := by first | exact HO603.out | ((with_reducible repeat (first | apply Kd.R_alloc | apply Kd.R_drewN | apply Kd.R_drew)); exact HO603.out)) : p := h
theorem zz26 {p : Prop} (h : p := by repeat (first | exact (Kd.R_reads' HO_13.out).2.2 | (with_reducible refine Kd.C_alloc ?_ _) | (with_reducible refine Kd.C_drewN ?_ _) | (with_reducible refine Kd.C_drew ?_))) : p := h
theorem zz27 {p : Prop} (h : p := by repeat (first | exact (Kd.R_reads' HO623.out).2.2 | (with_reducible refine Kd.C_alloc ?_ _) | (with_reducible refine Kd.C_drewN ?_ _) | (with_reducible refine Kd.C_drew ?_))) : p := h
theorem zz28 {p : Prop} (h : p := by first | exact HO623.out | ((with_reducible repeat (first | apply Kd.R_alloc | apply Kd.R_drewN | apply Kd.R_drew)); exact HO623.out)) : p := h
theorem zz29 {p : Prop} (h : p := by first | exact HO607.out | ((with_reducible repeat (first | apply Kd.R_alloc | apply Kd.R_drewN | apply Kd.R_drew)); exact HO607.out)) : p := h
theorem zz30 {p : Prop} (h : p := by repeat (first | exact (Kd.R_reads' HO_14.out).2.2 | (with_reducible refine Kd.C_alloc ?_ _) | (with_reducible refine Kd.C_drewN ?_ _) | (with_reducible refine Kd.C_drew ?_))) : p := h
theorem zz31 {p : Prop} (h : p := by repeat (first | exact (Kd.R_reads' HO627.out).2.2 | (with_reducible refine Kd.C_alloc ?_ _) | (with_reducible refine Kd.C_drewN ?_ _) | (with_reducible refine Kd.C_drew ?_))) : p := h
theorem zz32 {p : Prop} (h : p := by repeat (first | exact (Kd.C_below HR3.out HB.out) | (with_reducible refine Kd.C_alloc ?_ _) | (with_reducible refine Kd.C_drewN ?_ _) | (with_reducible refine Kd.C_drew ?_))) : p := h
theorem zz33 {p : Prop} (h : p := by (with_reducible repeat (first | apply Kd.R_alloc | apply Kd.R_drewN | apply Kd.R_drew)); exact Kd.R_mono HO610.out (fun _ hk => ⟨hk.2, hk.1.2⟩)) : p := h
theorem zz34 {p : Prop} (h : p := by (with_reducible repeat (first | apply Kd.R_alloc | apply Kd.R_drewN | apply Kd.R_drew)); exact Kd.R_mono HO607.out (fun _ hk => ⟨hk.2, hk.1.2⟩)) : p := h
theorem zz35 {p : Prop} (h : p := by (with_reducible repeat (first | apply Kd.R_alloc | apply Kd.R_drewN | apply Kd.R_drew)); exact Kd.R_mono HO603.out (fun _ hk => ⟨hk.1.2, hk.2⟩)) : p := h
theorem zz36 {p : Prop} (h : p := by rw [hg]; exact Nat.ne_of_lt (blk_lt (g := gb581) (o := .cells #[.int .i64 a0_0, .int .i64 a0_1, .slice A0_2 l0_2.length c0_2] 24 (0, 0)) zz2)) : p := h
theorem zz37 {p : Prop} (h : p := by rw [hg]; exact Nat.ne_of_gt (blk_lt (g := gb581) (o := .cells #[.int .i64 a0_0, .int .i64 a0_1, .slice A0_2 l0_2.length c0_2] 24 (0, 0)) zz2)) : p := h
theorem zz38 {p : Prop} (h : p := by rw [hg]; exact (below_size zz11)) : p := h
theorem zz39 {p : Prop} (h : p := by rw [hg]; exact (below_size zz10)) : p := h
theorem zz40 {p : Prop} (h : p := by repeat (first | exact (Kd.C_below HR3.out zz1) | (with_reducible refine Kd.C_alloc ?_ _) | (with_reducible refine Kd.C_drewN ?_ _) | (with_reducible refine Kd.C_drew ?_))) : p := h
/-! ### laws_FnExactCountJoins: function 5 -/
def laws_FnExactCountJoins.j0 : Nat → List Int → List Int → List Int → List Int → Bool → Int → Int → List Int → Int → Int → List Int → Option (Bool)
 | 0, _, _, _, _, _, _, _, _, _, _, _ => none
 | k + 1, x2, x3, x13, x14, x62, x582000, x582001, x582002, x605000, x605001, x605002 => if x62 = true then (some false) else ((laws_toBoard.f k x582000 x582001 x582002).bind fun bt615 => ((laws_eqBoard.f k x605000 x605001 x605002 bt615.1 bt615.2.1 bt615.2.2).bind fun t620 => (if t620 = true then ((laws_toIntS.f k x2).bind fun t621 => ((laws_eqIntS.f k x13 t621).bind fun t624 => (if t624 = true then ((laws_toIntS.f k x3).bind fun t625 => ((laws_eqIntS.f k x14 t625).bind fun t628 => (if t628 = true then (some true) else (some false)))) else (some false)))) else (some false))))
def laws_FnExactCountJoins.f (k : Nat) (a0_0 : Int) (a0_1 : Int) (l0_2 : List Int) (a1_0 : Int) (a1_1 : Int) (l2 : List Int) (l3 : List Int) : Option (Bool) := if (l2.length : Int) > 1048576 then (some true) else (if (l3.length : Int) > 1048576 then (some true) else ((laws_szBoard.f a0_0 a0_1 l0_2 1048576).bind fun t583 => (if t583 < 0 then (some true) else ((laws_toBoard.f k a0_0 a0_1 l0_2).bind fun bt584 => ((laws_toLeaper.f a1_0 a1_1).bind fun bt589 => ((laws_toIntS.f k l2).bind fun t591 => ((laws_toIntS.f k l3).bind fun t594 => ((spec_CountJoins.f k bt584.1 bt584.2.1 bt584.2.2 bt589.1 bt589.2 t591 t594).bind fun bt597 => ((laws_toBoard.f k a0_0 a0_1 l0_2).bind fun bt599 => ((laws_toIntS.f k l2).bind fun t605 => ((laws_toIntS.f k l3).bind fun t608 => ((laws_toLeaper.f a1_0 a1_1).bind fun bt611 => ((impl_CountJoins.f k bt599.1 bt599.2.1 bt599.2.2 bt611.1 bt611.2 t605 t608).bind fun bt613 => (if bt613.1 = bt597.1 then (laws_FnExactCountJoins.j0 k l2 l3 t605 t608 (bt613.2 != bt597.2) a0_0 a0_1 l0_2 bt599.1 bt599.2.1 bt599.2.2) else (laws_FnExactCountJoins.j0 k l2 l3 t605 t608 true a0_0 a0_1 l0_2 bt599.1 bt599.2.1 bt599.2.2)))))))))))))))
def laws_FnExactCountJoins.T9 : Bool × List (List Nat × List Nat) := (true, [([], []), ([0], [0]), ([], []), ([2, 1], [2]), ([], []), ([4, 3], [4]), ([], []), ([6, 5], [6]), ([1, 3, 5, 7, 7], [1, 3, 5, 7]), ([8], [8]), ([9], [9]), ([9], [9]), ([10, 8, 0, 1, 2, 3, 4, 5, 6, 7, 8, 9, 10], [10]), ([11, 12, 0, 1, 2, 3, 4, 5, 6, 7, 8, 9, 10, 11, 12], [11])])
def laws_FnExactCountJoins.B9 : List Nat := [0, 1, 0, 7, 0, 31, 0, 127, 255, 511, 1023, 1023, 2047, 8191]
theorem laws_FnExactCountJoins.tab9 : rtab .any (opsOf Try.f5 9) = laws_FnExactCountJoins.T9 := by kernel_rfl
theorem laws_FnExactCountJoins.bits9 : waitsOk laws_FnExactCountJoins.T9.2 laws_FnExactCountJoins.B9 = true := by kernel_rfl
def laws_FnExactCountJoins.T13 : Bool × List (List Nat × List Nat) := (true, [([], []), ([], []), ([1], [1]), ([], []), ([], []), ([0, 2, 3, 4, 2], [0, 2, 3, 4]), ([5], [5]), ([6], [6]), ([6], [6]), ([7, 5, 0, 1, 2, 3, 4, 5, 6, 7], [7]), ([8, 9, 0, 1, 2, 3, 4, 5, 6, 7, 8, 9], [8])])
def laws_FnExactCountJoins.B13 : List Nat := [0, 0, 2, 0, 0, 31, 63, 127, 127, 255, 1023]
theorem laws_FnExactCountJoins.tab13 : rtab .any (opsOf Try.f5 13) = laws_FnExactCountJoins.T13 := by kernel_rfl
theorem laws_FnExactCountJoins.bits13 : waitsOk laws_FnExactCountJoins.T13.2 laws_FnExactCountJoins.B13 = true := by kernel_rfl
set_option maxHeartbeats 8000000 in
set_option maxRecDepth 100000 in
theorem laws_FnExactCountJoins.calls (k : Nat) (a0_0 : Int) (a0_1 : Int) (A0_2 : Option Addr) (c0_2 : Nat) (l0_2 : List Int) (a1_0 : Int) (a1_1 : Int) (A2 : Option Addr) (c2 : Nat) (l2 : List Int) (A3 : Option Addr) (c3 : Nat) (l3 : List Int) (r : Bool) (w : World) (hr0_2 : Kd.C (Kd.int .i64) w A0_2 l0_2.length l0_2) (hc0_2 : l0_2.length ≤ c0_2) (hr2 : Kd.C (Kd.int .i64) w A2 l2.length l2) (hc2 : l2.length ≤ c2) (hr3 : Kd.C (Kd.int .i64) w A3 l3.length l3) (hc3 : l3.length ≤ c3) (h : laws_FnExactCountJoins.f k a0_0 a0_1 l0_2 a1_0 a1_1 l2 l3 = some r) :
  Calls Try.prog 5 #[.agg #[.int .i64 a0_0, .int .i64 a0_1, .slice A0_2 l0_2.length c0_2], .agg #[.int .i64 a1_0, .int .i64 a1_1], .slice A2 l2.length c2, .slice A3 l3.length c3] w fun e w' => e = .returned (.bool r) ∧ Below w.heap.size w w' := by
 have hu24 := Try.underlying24
 have hu26 := Try.underlying26
 have hu30 := Try.underlying30
 have HR0_2 := Aside0.mk hr0_2
 have HC0_2 := Aside0.mk hc0_2
 clear hr0_2 hc0_2
 have HR2 := Aside0.mk hr2
 have HC2 := Aside0.mk hc2
 clear hr2 hc2
 have HR3 := Aside0.mk hr3
 have HC3 := Aside0.mk hc3
 clear hr3 hc3
 have HB := Aside0.mk (Below.refl w.heap.size w)
 have H : (if (l2.length : Int) > 1048576 then (some true) else (if (l3.length : Int) > 1048576 then (some true) else ((laws_szBoard.f a0_0 a0_1 l0_2 1048576).bind fun t583 => (if t583 < 0 then (some true) else ((laws_toBoard.f k a0_0 a0_1 l0_2).bind fun bt584 => ((laws_toLeaper.f a1_0 a1_1).bind fun bt589 => ((laws_toIntS.f k l2).bind fun t591 => ((laws_toIntS.f k l3).bind fun t594 => ((spec_CountJoins.f k bt584.1 bt584.2.1 bt584.2.2 bt589.1 bt589.2 t591 t594).bind fun bt597 => ((laws_toBoard.f k a0_0 a0_1 l0_2).bind fun bt599 => ((laws_toIntS.f k l2).bind fun t605 => ((laws_toIntS.f k l3).bind fun t608 => ((laws_toLeaper.f a1_0 a1_1).bind fun bt611 => ((impl_CountJoins.f k bt599.1 bt599.2.1 bt599.2.2 bt611.1 bt611.2 t605 t608).bind fun bt613 => (if bt613.1 = bt597.1 then (laws_FnExactCountJoins.j0 k l2 l3 t605 t608 (bt613.2 != bt597.2) a0_0 a0_1 l0_2 bt599.1 bt599.2.1 bt599.2.2) else (laws_FnExactCountJoins.j0 k l2 l3 t605 t608 true a0_0 a0_1 l0_2 bt599.1 bt599.2.1 bt599.2.2)))))))))))))))) = some r := h
 clear h
 by_cases c5 : (l2.length : Int) > 1048576
 ·rw [if_pos c5] at H
  have c5b0 : decide (1048576 < (l2.length : Int)) = true := decide_eq_true c5
  have c5b1 : decide (1048576 < l2.length) = true := decide_eq_true (by omega)
  clear c5
  obtain rfl := Option.some.inj H
  go_enter Try.func5, Try.ntmps5
  go_wp2_with (first | ((with_reducible refine gate_dst (N := 4) rfl ?_); refine box_event ?hg (N := 4) ?hd (cs := #[.int .i64 a0_0, .int .i64 a0_1, .slice A0_2 l0_2.length c0_2]) (t := 24) ?hr ?_; (case hd => rfl); (case hg => rfl); (case hr => first | (go_simp; done) | (go_simp; rfl)); intro gb581 hg w6 hbox hb; have n0_ := Aside0.mk (below_step zz11 hb); have n1_ := Aside0.mk (hbox); have n2_ := Aside0.mk ((zz38 : w.heap.size ≤ gb581)); have n3_ := Aside0.mk ((zz38 : w.heap.size ≤ gb581)); clear HB; have HB := n0_; have BK581 := n1_; have GW581 := n2_; have GE581 := n3_; clear n0_ n1_ n2_ n3_; clear hb hbox hg) | ((with_reducible refine gate_dst (N := 5) rfl ?_); refine box_event ?hg (N := 5) ?hd (cs := #[.int .i64 a1_0, .int .i64 a1_1]) (t := 26) ?hr ?_; (case hd => rfl); (case hg => rfl); (case hr => first | (go_simp; done) | (go_simp; rfl)); intro gb582 hg w7 hbox hb; have n0_ := Aside0.mk (blk_below (g := gb581) (o := .cells #[.int .i64 a0_0, .int .i64 a0_1, .slice A0_2 l0_2.length c0_2] 24 (0, 0)) zz2 hb); have n1_ := Aside0.mk (below_step zz10 hb); have n2_ := Aside0.mk (hbox); have n3_ := Aside0.mk ((zz39 : w.heap.size ≤ gb582)); have n4_ := Aside0.mk ((zz39 : w.heap.size ≤ gb582)); have n5_ := Aside0.mk ((zz36 : gb581 ≠ gb582)); have n6_ := Aside0.mk ((zz37 : gb582 ≠ gb581)); clear BK581; clear HB; have BK581 := n0_; have HB := n1_; have BK582 := n2_; have GW582 := n3_; have GE582 := n4_; have NB581_582 := n5_; have NB582_581 := n6_; clear n0_ n1_ n2_ n3_ n4_ n5_ n6_; clear hb hbox hg))
  go_ret
  exact ⟨zz17, zz4⟩
 rw [if_neg c5] at H
 have c5b0 : decide (1048576 < (l2.length : Int)) = false := decide_eq_false c5
 have c5b1 : decide (1048576 < l2.length) = false := decide_eq_false (by omega)
 clear c5
 by_cases c8 : (l3.length : Int) > 1048576
 ·rw [if_pos c8] at H
  have c8b0 : decide (1048576 < (l3.length : Int)) = true := decide_eq_true c8
  have c8b1 : decide (1048576 < l3.length) = true := decide_eq_true (by omega)
  clear c8
  obtain rfl := Option.some.inj H
  go_enter Try.func5, Try.ntmps5
  go_wp2_with (first | ((with_reducible refine gate_dst (N := 4) rfl ?_); refine box_event ?hg (N := 4) ?hd (cs := #[.int .i64 a0_0, .int .i64 a0_1, .slice A0_2 l0_2.length c0_2]) (t := 24) ?hr ?_; (case hd => rfl); (case hg => rfl); (case hr => first | (go_simp; done) | (go_simp; rfl)); intro gb581 hg w9 hbox hb; have n0_ := Aside0.mk (below_step zz11 hb); have n1_ := Aside0.mk (hbox); have n2_ := Aside0.mk ((zz38 : w.heap.size ≤ gb581)); have n3_ := Aside0.mk ((zz38 : w.heap.size ≤ gb581)); clear HB; have HB := n0_; have BK581 := n1_; have GW581 := n2_; have GE581 := n3_; clear n0_ n1_ n2_ n3_; clear hb hbox hg) | ((with_reducible refine gate_dst (N := 5) rfl ?_); refine box_event ?hg (N := 5) ?hd (cs := #[.int .i64 a1_0, .int .i64 a1_1]) (t := 26) ?hr ?_; (case hd => rfl); (case hg => rfl); (case hr => first | (go_simp; done) | (go_simp; rfl)); intro gb582 hg w10 hbox hb; have n0_ := Aside0.mk (blk_below (g := gb581) (o := .cells #[.int .i64 a0_0, .int .i64 a0_1, .slice A0_2 l0_2.length c0_2] 24 (0, 0)) zz2 hb); have n1_ := Aside0.mk (below_step zz10 hb); have n2_ := Aside0.mk (hbox); have n3_ := Aside0.mk ((zz39 : w.heap.size ≤ gb582)); have n4_ := Aside0.mk ((zz39 : w.heap.size ≤ gb582)); have n5_ := Aside0.mk ((zz36 : gb581 ≠ gb582)); have n6_ := Aside0.mk ((zz37 : gb582 ≠ gb581)); clear BK581; clear HB; have BK581 := n0_; have HB := n1_; have BK582 := n2_; have GW582 := n3_; have GE582 := n4_; have NB581_582 := n5_; have NB582_581 := n6_; clear n0_ n1_ n2_ n3_ n4_ n5_ n6_; clear hb hbox hg))
  go_ret
  exact ⟨zz17, zz4⟩
 rw [if_neg c8] at H
 have c8b0 : decide (1048576 < (l3.length : Int)) = false := decide_eq_false c8
 have c8b1 : decide (1048576 < l3.length) = false := decide_eq_false (by omega)
 clear c8
 replace H := Option.bind_eq_some_iff.mp H
 obtain ⟨t583, A110, H⟩ := H
 replace H : (if t583 < 0 then (some true) else ((laws_toBoard.f k a0_0 a0_1 l0_2).bind fun bt584 => ((laws_toLeaper.f a1_0 a1_1).bind fun bt589 => ((laws_toIntS.f k l2).bind fun t591 => ((laws_toIntS.f k l3).bind fun t594 => ((spec_CountJoins.f k bt584.1 bt584.2.1 bt584.2.2 bt589.1 bt589.2 t591 t594).bind fun bt597 => ((laws_toBoard.f k a0_0 a0_1 l0_2).bind fun bt599 => ((laws_toIntS.f k l2).bind fun t605 => ((laws_toIntS.f k l3).bind fun t608 => ((laws_toLeaper.f a1_0 a1_1).bind fun bt611 => ((impl_CountJoins.f k bt599.1 bt599.2.1 bt599.2.2 bt611.1 bt611.2 t605 t608).bind fun bt613 => (if bt613.1 = bt597.1 then (laws_FnExactCountJoins.j0 k l2 l3 t605 t608 (bt613.2 != bt597.2) a0_0 a0_1 l0_2 bt599.1 bt599.2.1 bt599.2.2) else (laws_FnExactCountJoins.j0 k l2 l3 t605 t608 true a0_0 a0_1 l0_2 bt599.1 bt599.2.1 bt599.2.2))))))))))))) = some r := H
 have A11 := Aside0.mk A110
 clear A110
 by_cases c12 : t583 < 0
 ·rw [if_pos c12] at H
  have c12b0 : decide (t583 < 0) = true := decide_eq_true c12
  clear c12
  obtain rfl := Option.some.inj H
  go_enter Try.func5, Try.ntmps5
  go_wp2_with (first | ((with_reducible refine gate_dst (N := 4) rfl ?_); refine box_event ?hg (N := 4) ?hd (cs := #[.int .i64 a0_0, .int .i64 a0_1, .slice A0_2 l0_2.length c0_2]) (t := 24) ?hr ?_; (case hd => rfl); (case hg => rfl); (case hr => first | (go_simp; done) | (go_simp; rfl)); intro gb581 hg w13 hbox hb; have n0_ := Aside0.mk (below_step zz11 hb); have n1_ := Aside0.mk (hbox); have n2_ := Aside0.mk ((zz38 : w.heap.size ≤ gb581)); have n3_ := Aside0.mk ((zz38 : w.heap.size ≤ gb581)); clear HB; have HB := n0_; have BK581 := n1_; have GW581 := n2_; have GE581 := n3_; clear n0_ n1_ n2_ n3_; clear hb hbox hg) | ((with_reducible refine gate_dst (N := 5) rfl ?_); refine box_event ?hg (N := 5) ?hd (cs := #[.int .i64 a1_0, .int .i64 a1_1]) (t := 26) ?hr ?_; (case hd => rfl); (case hg => rfl); (case hr => first | (go_simp; done) | (go_simp; rfl)); intro gb582 hg w14 hbox hb; have n0_ := Aside0.mk (blk_below (g := gb581) (o := .cells #[.int .i64 a0_0, .int .i64 a0_1, .slice A0_2 l0_2.length c0_2] 24 (0, 0)) zz2 hb); have n1_ := Aside0.mk (below_step zz10 hb); have n2_ := Aside0.mk (hbox); have n3_ := Aside0.mk ((zz39 : w.heap.size ≤ gb582)); have n4_ := Aside0.mk ((zz39 : w.heap.size ≤ gb582)); have n5_ := Aside0.mk ((zz36 : gb581 ≠ gb582)); have n6_ := Aside0.mk ((zz37 : gb582 ≠ gb581)); clear BK581; clear HB; have BK581 := n0_; have HB := n1_; have BK582 := n2_; have GW582 := n3_; have GE582 := n4_; have NB581_582 := n5_; have NB582_581 := n6_; clear n0_ n1_ n2_ n3_ n4_ n5_ n6_; clear hb hbox hg; have hnb15 := NB581_582.out; have hnc15 := NB582_581.out; have hcz16_0 : w14.cell? ⟨gb581, 0, none⟩ = some (.int .i64 a0_0) := (blk_cell BK581.out 0).trans rfl; have hcz16_1 : w14.cell? ⟨gb581, 1, none⟩ = some (.int .i64 a0_1) := (blk_cell BK581.out 1).trans rfl; have hcz16_2 : w14.cell? ⟨gb581, 2, none⟩ = some (.slice A0_2 l0_2.length c0_2) := (blk_cell BK581.out 2).trans rfl; have hfz16_0 := blk_frozen BK581.out 0; have hfz16_1 := blk_frozen BK581.out 1; have hfz16_2 := blk_frozen BK581.out 2) | ((with_reducible refine gate_callee (f := 12) rfl ?_); refine goesL_ (some 25) rfl rfl Try.func12 (by kernel_rfl) rfl #[.agg #[.int .i64 a0_0, .int .i64 a0_1, .slice A0_2 l0_2.length c0_2], .int .i64 1048576] rfl zz3 ?_; (with_reducible refine (laws_szBoard.calls a0_0 a0_1 _ _ l0_2 1048576 t583 _ ?side1 ?side2 A11.out).mono ?_); (case side1 => exact zz14); (case side2 => exact HC0_2.out); rintro e w17 ⟨rfl, hb⟩; refine ⟨_, rfl, ?_⟩; have n0_ := Aside0.mk (blk_below (g := gb581) (o := .cells #[.int .i64 a0_0, .int .i64 a0_1, .slice A0_2 l0_2.length c0_2] 24 (0, 0)) zz2 hb); have n1_ := Aside0.mk (blk_below (g := gb582) (o := .cells #[.int .i64 a1_0, .int .i64 a1_1] 26 (0, 0)) zz5 hb); have n2_ := Aside0.mk (below_step zz4 hb); clear BK581; clear BK582; clear HB; have BK581 := n0_; have BK582 := n1_; have HB := n2_; clear n0_ n1_ n2_; (try clear hb); (try clear hb2); (try clear hk); (try clear hi); (try clear hna_); (try clear hnb_)))
  go_ret
  exact ⟨zz17, zz4⟩
 rw [if_neg c12] at H
 have c12b0 : decide (t583 < 0) = false := decide_eq_false c12
 clear c12
 replace H := Option.bind_eq_some_iff.mp H
 obtain ⟨⟨t584, t585, t586⟩, A180, H⟩ := H
 replace H : ((laws_toLeaper.f a1_0 a1_1).bind fun bt589 => ((laws_toIntS.f k l2).bind fun t591 => ((laws_toIntS.f k l3).bind fun t594 => ((spec_CountJoins.f k t584 t585 t586 bt589.1 bt589.2 t591 t594).bind fun bt597 => ((laws_toBoard.f k a0_0 a0_1 l0_2).bind fun bt599 => ((laws_toIntS.f k l2).bind fun t605 => ((laws_toIntS.f k l3).bind fun t608 => ((laws_toLeaper.f a1_0 a1_1).bind fun bt611 => ((impl_CountJoins.f k bt599.1 bt599.2.1 bt599.2.2 bt611.1 bt611.2 t605 t608).bind fun bt613 => (if bt613.1 = bt597.1 then (laws_FnExactCountJoins.j0 k l2 l3 t605 t608 (bt613.2 != bt597.2) a0_0 a0_1 l0_2 bt599.1 bt599.2.1 bt599.2.2) else (laws_FnExactCountJoins.j0 k l2 l3 t605 t608 true a0_0 a0_1 l0_2 bt599.1 bt599.2.1 bt599.2.2))))))))))) = some r := H
 have A18 := Aside0.mk A180
 clear A180
 replace H := Option.bind_eq_some_iff.mp H
 obtain ⟨⟨t589, t590⟩, A190, H⟩ := H
 replace H : ((laws_toIntS.f k l2).bind fun t591 => ((laws_toIntS.f k l3).bind fun t594 => ((spec_CountJoins.f k t584 t585 t586 t589 t590 t591 t594).bind fun bt597 => ((laws_toBoard.f k a0_0 a0_1 l0_2).bind fun bt599 => ((laws_toIntS.f k l2).bind fun t605 => ((laws_toIntS.f k l3).bind fun t608 => ((laws_toLeaper.f a1_0 a1_1).bind fun bt611 => ((impl_CountJoins.f k bt599.1 bt599.2.1 bt599.2.2 bt611.1 bt611.2 t605 t608).bind fun bt613 => (if bt613.1 = bt597.1 then (laws_FnExactCountJoins.j0 k l2 l3 t605 t608 (bt613.2 != bt597.2) a0_0 a0_1 l0_2 bt599.1 bt599.2.1 bt599.2.2) else (laws_FnExactCountJoins.j0 k l2 l3 t605 t608 true a0_0 a0_1 l0_2 bt599.1 bt599.2.1 bt599.2.2)))))))))) = some r := H
 have A19 := Aside0.mk A190
 clear A190
 replace H := Option.bind_eq_some_iff.mp H
 obtain ⟨t591, A200, H⟩ := H
 replace H : ((laws_toIntS.f k l3).bind fun t594 => ((spec_CountJoins.f k t584 t585 t586 t589 t590 t591 t594).bind fun bt597 => ((laws_toBoard.f k a0_0 a0_1 l0_2).bind fun bt599 => ((laws_toIntS.f k l2).bind fun t605 => ((laws_toIntS.f k l3).bind fun t608 => ((laws_toLeaper.f a1_0 a1_1).bind fun bt611 => ((impl_CountJoins.f k bt599.1 bt599.2.1 bt599.2.2 bt611.1 bt611.2 t605 t608).bind fun bt613 => (if bt613.1 = bt597.1 then (laws_FnExactCountJoins.j0 k l2 l3 t605 t608 (bt613.2 != bt597.2) a0_0 a0_1 l0_2 bt599.1 bt599.2.1 bt599.2.2) else (laws_FnExactCountJoins.j0 k l2 l3 t605 t608 true a0_0 a0_1 l0_2 bt599.1 bt599.2.1 bt599.2.2))))))))) = some r := H
 have A20 := Aside0.mk A200
 clear A200
 replace H := Option.bind_eq_some_iff.mp H
 obtain ⟨t594, A210, H⟩ := H
 replace H : ((spec_CountJoins.f k t584 t585 t586 t589 t590 t591 t594).bind fun bt597 => ((laws_toBoard.f k a0_0 a0_1 l0_2).bind fun bt599 => ((laws_toIntS.f k l2).bind fun t605 => ((laws_toIntS.f k l3).bind fun t608 => ((laws_toLeaper.f a1_0 a1_1).bind fun bt611 => ((impl_CountJoins.f k bt599.1 bt599.2.1 bt599.2.2 bt611.1 bt611.2 t605 t608).bind fun bt613 => (if bt613.1 = bt597.1 then (laws_FnExactCountJoins.j0 k l2 l3 t605 t608 (bt613.2 != bt597.2) a0_0 a0_1 l0_2 bt599.1 bt599.2.1 bt599.2.2) else (laws_FnExactCountJoins.j0 k l2 l3 t605 t608 true a0_0 a0_1 l0_2 bt599.1 bt599.2.1 bt599.2.2)))))))) = some r := H
 have A21 := Aside0.mk A210
 clear A210
 replace H := Option.bind_eq_some_iff.mp H
 obtain ⟨⟨t597, t598⟩, A220, H⟩ := H
 replace H : ((laws_toBoard.f k a0_0 a0_1 l0_2).bind fun bt599 => ((laws_toIntS.f k l2).bind fun t605 => ((laws_toIntS.f k l3).bind fun t608 => ((laws_toLeaper.f a1_0 a1_1).bind fun bt611 => ((impl_CountJoins.f k bt599.1 bt599.2.1 bt599.2.2 bt611.1 bt611.2 t605 t608).bind fun bt613 => (if bt613.1 = t597 then (laws_FnExactCountJoins.j0 k l2 l3 t605 t608 (bt613.2 != t598) a0_0 a0_1 l0_2 bt599.1 bt599.2.1 bt599.2.2) else (laws_FnExactCountJoins.j0 k l2 l3 t605 t608 true a0_0 a0_1 l0_2 bt599.1 bt599.2.1 bt599.2.2))))))) = some r := H
 have A22 := Aside0.mk A220
 clear A220
 replace H := Option.bind_eq_some_iff.mp H
 obtain ⟨⟨t599, t600, t601⟩, A230, H⟩ := H
 replace H : ((laws_toIntS.f k l2).bind fun t605 => ((laws_toIntS.f k l3).bind fun t608 => ((laws_toLeaper.f a1_0 a1_1).bind fun bt611 => ((impl_CountJoins.f k t599 t600 t601 bt611.1 bt611.2 t605 t608).bind fun bt613 => (if bt613.1 = t597 then (laws_FnExactCountJoins.j0 k l2 l3 t605 t608 (bt613.2 != t598) a0_0 a0_1 l0_2 t599 t600 t601) else (laws_FnExactCountJoins.j0 k l2 l3 t605 t608 true a0_0 a0_1 l0_2 t599 t600 t601)))))) = some r := H
 have A23 := Aside0.mk A230
 clear A230
 replace H := Option.bind_eq_some_iff.mp H
 obtain ⟨t605, A240, H⟩ := H
 replace H : ((laws_toIntS.f k l3).bind fun t608 => ((laws_toLeaper.f a1_0 a1_1).bind fun bt611 => ((impl_CountJoins.f k t599 t600 t601 bt611.1 bt611.2 t605 t608).bind fun bt613 => (if bt613.1 = t597 then (laws_FnExactCountJoins.j0 k l2 l3 t605 t608 (bt613.2 != t598) a0_0 a0_1 l0_2 t599 t600 t601) else (laws_FnExactCountJoins.j0 k l2 l3 t605 t608 true a0_0 a0_1 l0_2 t599 t600 t601))))) = some r := H
 have A24 := Aside0.mk A240
 clear A240
 replace H := Option.bind_eq_some_iff.mp H
 obtain ⟨t608, A250, H⟩ := H
 replace H : ((laws_toLeaper.f a1_0 a1_1).bind fun bt611 => ((impl_CountJoins.f k t599 t600 t601 bt611.1 bt611.2 t605 t608).bind fun bt613 => (if bt613.1 = t597 then (laws_FnExactCountJoins.j0 k l2 l3 t605 t608 (bt613.2 != t598) a0_0 a0_1 l0_2 t599 t600 t601) else (laws_FnExactCountJoins.j0 k l2 l3 t605 t608 true a0_0 a0_1 l0_2 t599 t600 t601)))) = some r := H
 have A25 := Aside0.mk A250
 clear A250
 replace H := Option.bind_eq_some_iff.mp H
 obtain ⟨⟨t611, t612⟩, A260, H⟩ := H
 replace H : ((impl_CountJoins.f k t599 t600 t601 t611 t612 t605 t608).bind fun bt613 => (if bt613.1 = t597 then (laws_FnExactCountJoins.j0 k l2 l3 t605 t608 (bt613.2 != t598) a0_0 a0_1 l0_2 t599 t600 t601) else (laws_FnExactCountJoins.j0 k l2 l3 t605 t608 true a0_0 a0_1 l0_2 t599 t600 t601))) = some r := H
 have A26 := Aside0.mk A260
 clear A260
 replace H := Option.bind_eq_some_iff.mp H
 obtain ⟨⟨t613, t614⟩, A270, H⟩ := H
 replace H : (if t613 = t597 then (laws_FnExactCountJoins.j0 k l2 l3 t605 t608 (t614 != t598) a0_0 a0_1 l0_2 t599 t600 t601) else (laws_FnExactCountJoins.j0 k l2 l3 t605 t608 true a0_0 a0_1 l0_2 t599 t600 t601)) = some r := H
 have A27 := Aside0.mk A270
 clear A270
 have HC28 := Aside0.mk H
 clear H
 go_enter Try.func5, Try.ntmps5
 try go_wp2_with (first | ((with_reducible refine gate_dst (N := 4) rfl ?_); refine box_event ?hg (N := 4) ?hd (cs := #[.int .i64 a0_0, .int .i64 a0_1, .slice A0_2 l0_2.length c0_2]) (t := 24) ?hr ?_; (case hd => rfl); (case hg => rfl); (case hr => first | (go_simp; done) | (go_simp; rfl)); intro gb581 hg w29 hbox hb; have n0_ := Aside0.mk (below_step zz11 hb); have n1_ := Aside0.mk (hbox); have n2_ := Aside0.mk ((zz38 : w.heap.size ≤ gb581)); have n3_ := Aside0.mk ((zz38 : w.heap.size ≤ gb581)); clear HB; have HB := n0_; have BK581 := n1_; have GW581 := n2_; have GE581 := n3_; clear n0_ n1_ n2_ n3_; clear hb hbox hg) | ((with_reducible refine gate_dst (N := 5) rfl ?_); refine box_event ?hg (N := 5) ?hd (cs := #[.int .i64 a1_0, .int .i64 a1_1]) (t := 26) ?hr ?_; (case hd => rfl); (case hg => rfl); (case hr => first | (go_simp; done) | (go_simp; rfl)); intro gb582 hg w30 hbox hb; have n0_ := Aside0.mk (blk_below (g := gb581) (o := .cells #[.int .i64 a0_0, .int .i64 a0_1, .slice A0_2 l0_2.length c0_2] 24 (0, 0)) zz2 hb); have n1_ := Aside0.mk (below_step zz10 hb); have n2_ := Aside0.mk (hbox); have n3_ := Aside0.mk ((zz39 : w.heap.size ≤ gb582)); have n4_ := Aside0.mk ((zz39 : w.heap.size ≤ gb582)); have n5_ := Aside0.mk ((zz36 : gb581 ≠ gb582)); have n6_ := Aside0.mk ((zz37 : gb582 ≠ gb581)); clear BK581; clear HB; have BK581 := n0_; have HB := n1_; have BK582 := n2_; have GW582 := n3_; have GE582 := n4_; have NB581_582 := n5_; have NB582_581 := n6_; clear n0_ n1_ n2_ n3_ n4_ n5_ n6_; clear hb hbox hg; have hnb31 := NB581_582.out; have hnc31 := NB582_581.out; have hcz32_0 : w30.cell? ⟨gb581, 0, none⟩ = some (.int .i64 a0_0) := (blk_cell BK581.out 0).trans rfl; have hcz32_1 : w30.cell? ⟨gb581, 1, none⟩ = some (.int .i64 a0_1) := (blk_cell BK581.out 1).trans rfl; have hcz32_2 : w30.cell? ⟨gb581, 2, none⟩ = some (.slice A0_2 l0_2.length c0_2) := (blk_cell BK581.out 2).trans rfl; have hfz32_0 := blk_frozen BK581.out 0; have hfz32_1 := blk_frozen BK581.out 1; have hfz32_2 := blk_frozen BK581.out 2) | ((with_reducible refine gate_callee (f := 12) rfl ?_); refine goesL_ (some 25) rfl rfl Try.func12 (by kernel_rfl) rfl #[.agg #[.int .i64 a0_0, .int .i64 a0_1, .slice A0_2 l0_2.length c0_2], .int .i64 1048576] rfl zz3 ?_; (with_reducible refine (laws_szBoard.calls a0_0 a0_1 _ _ l0_2 1048576 t583 _ ?side1 ?side2 A11.out).mono ?_); (case side1 => exact zz14); (case side2 => exact HC0_2.out); rintro e w33 ⟨rfl, hb⟩; refine ⟨_, rfl, ?_⟩; have n0_ := Aside0.mk (blk_below (g := gb581) (o := .cells #[.int .i64 a0_0, .int .i64 a0_1, .slice A0_2 l0_2.length c0_2] 24 (0, 0)) zz2 hb); have n1_ := Aside0.mk (blk_below (g := gb582) (o := .cells #[.int .i64 a1_0, .int .i64 a1_1] 26 (0, 0)) zz5 hb); have n2_ := Aside0.mk (below_step zz4 hb); clear BK581; clear BK582; clear HB; have BK581 := n0_; have BK582 := n1_; have HB := n2_; clear n0_ n1_ n2_; (try clear hb); (try clear hb2); (try clear hk); (try clear hi); (try clear hna_); (try clear hnb_)))
 have n0_ := Aside0.mk (blk_drew BK581.out)
 have n1_ := Aside0.mk (blk_drew BK582.out)
 have n2_ := Aside0.mk (below_drew1 HB.out)
 clear BK581
 clear BK582
 clear HB
 have BK581 := n0_
 have BK582 := n1_
 have HB := n2_
 clear n0_ n1_ n2_
 refine start_ (n := 14) (S := fun w' => w'.cell? ⟨gb581, 0, none⟩ = some (.int .i64 a0_0) ∧ w'.cell? ⟨gb581, 1, none⟩ = some (.int .i64 a0_1) ∧ w'.cell? ⟨gb581, 2, none⟩ = some (.slice A0_2 l0_2.length c0_2) ∧ w'.cell? ⟨gb582, 0, none⟩ = some (.int .i64 a1_0) ∧ w'.cell? ⟨gb582, 1, none⟩ = some (.int .i64 a1_1)) (ds := []) #[false, false, false, false, false, false, false, false, false, false, false, false, false, false] (by kernel_rfl) rfl rfl ⟨(blk_cell BK581.out 0).trans rfl, (blk_cell BK581.out 1).trans rfl, (blk_cell BK581.out 2).trans rfl, (blk_cell BK582.out 0).trans rfl, (blk_cell BK582.out 1).trans rfl⟩ (fun hHeld => ?_); refine with_tabW laws_FnExactCountJoins.tab9 laws_FnExactCountJoins.bits9 (fun HT_ HW_ => ?_)
 generalize w33.drew = w34 at BK581 BK582 HB hHeld ⊢
 refine pure_ (i := 4) (N := some 33) (v := ?_) (a' := ?_) #[false, false, false, false, true, false, false, false, false, false, false, false, false, false] rfl rfl (any_of HT_.out (by kernel_rfl)) (fun _ _ _ h => h) (Or.inl ⟨by rfl, ?_⟩) ?_ ?_
 rotate_left
 ·intro w'
  go_simp
  with_reducible rfl
 rotate_left
 ·simp only [Act.put, List.setIfInBounds_toArray, List.set_cons_zero, List.set_cons_succ, i64_w, i32_w]
  rfl
 refine pure_ (i := 6) (N := some 35) (v := ?_) (a' := ?_) #[false, false, false, false, true, false, true, false, false, false, false, false, false, false] rfl rfl (any_of HT_.out (by kernel_rfl)) (fun _ _ _ h => h) (Or.inl ⟨by rfl, ?_⟩) ?_ ?_
 rotate_left
 ·intro w'
  go_simp
  with_reducible rfl
 rotate_left
 ·simp only [Act.put, List.setIfInBounds_toArray, List.set_cons_zero, List.set_cons_succ, i64_w, i32_w]
  rfl
 refine take_ (i := 0) (N := some 29) (v := ?_) (a' := ?_) #[true, false, false, false, true, false, true, false, false, false, false, false, false, false] rfl rfl (take_ofW HT_.out HW_.out (by kernel_rfl)) (fun _ _ _ h => h) (Or.inl ⟨by rfl, ?_⟩) hHeld ?_ ?_
 rotate_left
 ·rintro w' ⟨s0, s1, s2, s3, s4⟩
  go_simp
  with_reducible rfl
 rotate_left
 ·simp only [Act.put, List.setIfInBounds_toArray, List.set_cons_zero, List.set_cons_succ, i64_w, i32_w]
  rfl
 refine take_ (i := 2) (N := some 31) (v := ?_) (a' := ?_) #[true, false, true, false, true, false, true, false, false, false, false, false, false, false] rfl rfl (take_ofW HT_.out HW_.out (by kernel_rfl)) (fun _ _ _ h => h) (Or.inl ⟨by rfl, ?_⟩) hHeld ?_ ?_
 rotate_left
 ·rintro w' ⟨s0, s1, s2, s3, s4⟩
  go_simp
  with_reducible rfl
 rotate_left
 ·simp only [Act.put, List.setIfInBounds_toArray, List.set_cons_zero, List.set_cons_succ, i64_w, i32_w]
  rfl
 refine one_ (i := 1) (N := some 30) #[true, true, true, false, true, false, true, false, false, false, false, false, false, false] rfl rfl (one_of HT_.out (by kernel_rfl)) (by decide) (fun K hK => ?_)
 refine goes_ Try.func14 (by kernel_rfl) rfl #[.agg #[.int .i64 a0_0, .int .i64 a0_1, .slice A0_2 l0_2.length c0_2]] (by rfl) rfl rfl zz3 ?_
 with_reducible refine (laws_toBoard.calls k a0_0 a0_1 _ _ l0_2 t584 t585 t586 _ ?side1 ?side2 A18.out).mono ?_
 (case side1 => exact zz14)
 (case side2 => exact HC0_2.out)
 rintro e w35 ⟨v587, rfl, ho0, hb⟩
 refine ⟨_, rfl, ?_⟩
 have n0_ := Aside0.mk (Kd.R_lower ho0 (below_size zz4))
 have n1_ := Aside0.mk (blk_below (g := gb581) (o := .cells #[.int .i64 a0_0, .int .i64 a0_1, .slice A0_2 l0_2.length c0_2] 24 (0, 0)) zz2 hb)
 have n2_ := Aside0.mk (blk_below (g := gb582) (o := .cells #[.int .i64 a1_0, .int .i64 a1_1] 26 (0, 0)) zz5 hb)
 have n3_ := Aside0.mk (below_step zz4 hb)
 clear BK581
 clear BK582
 clear HB
 have HO588 := n0_
 have BK581 := n1_
 have BK582 := n2_
 have HB := n3_
 clear n0_ n1_ n2_ n3_
 (try clear hb)
 (try clear hb2)
 (try clear hk)
 (try clear hi)
 (try clear ho0)
 (try clear hna_)
 (try clear hnb_)
 refine hK.out _ _ ⟨(blk_cell BK581.out 0).trans rfl, (blk_cell BK581.out 1).trans rfl, (blk_cell BK581.out 2).trans rfl, (blk_cell BK582.out 0).trans rfl, (blk_cell BK582.out 1).trans rfl⟩ (fun hHeld => ?_)
 clear hK K
 refine norm_ (a' := ?_) ?_ ?_
 rotate_left
 ·show Act.put _ (some 30) _ = _
  simp only [Act.put, List.setIfInBounds_toArray, List.set_cons_zero, List.set_cons_succ, i64_w, i32_w]
  rfl
 refine one_ (i := 3) (N := some 32) #[true, true, true, true, true, false, true, false, false, false, false, false, false, false] rfl rfl (one_of HT_.out (by kernel_rfl)) (by decide) (fun K hK => ?_)
 refine goes_ Try.func15 (by kernel_rfl) rfl #[.agg #[.int .i64 a1_0, .int .i64 a1_1]] (by rfl) rfl rfl zz3 ?_
 with_reducible refine (laws_toLeaper.calls a1_0 a1_1 t589 t590 _ A19.out).mono ?_
 rintro e w36 ⟨rfl, hb⟩
 refine ⟨_, rfl, ?_⟩
 have n0_ := Aside0.mk (Kd.R_below zz13 hb)
 have n1_ := Aside0.mk (blk_below (g := gb581) (o := .cells #[.int .i64 a0_0, .int .i64 a0_1, .slice A0_2 l0_2.length c0_2] 24 (0, 0)) zz2 hb)
 have n2_ := Aside0.mk (blk_below (g := gb582) (o := .cells #[.int .i64 a1_0, .int .i64 a1_1] 26 (0, 0)) zz5 hb)
 have n3_ := Aside0.mk (below_step zz4 hb)
 clear HO588
 clear BK581
 clear BK582
 clear HB
 have HO588 := n0_
 have BK581 := n1_
 have BK582 := n2_
 have HB := n3_
 clear n0_ n1_ n2_ n3_
 (try clear hb)
 (try clear hb2)
 (try clear hk)
 (try clear hi)
 (try clear hna_)
 (try clear hnb_)
 refine hK.out _ _ ⟨(blk_cell BK581.out 0).trans rfl, (blk_cell BK581.out 1).trans rfl, (blk_cell BK581.out 2).trans rfl, (blk_cell BK582.out 0).trans rfl, (blk_cell BK582.out 1).trans rfl⟩ (fun hHeld => ?_)
 clear hK K
 refine norm_ (a' := ?_) ?_ ?_
 rotate_left
 ·show Act.put _ (some 32) _ = _
  simp only [Act.put, List.setIfInBounds_toArray, List.set_cons_zero, List.set_cons_succ, i64_w, i32_w]
  rfl
 refine one_ (i := 5) (N := some 34) #[true, true, true, true, true, true, true, false, false, false, false, false, false, false] rfl rfl (one_of HT_.out (by kernel_rfl)) (by decide) (fun K hK => ?_)
 refine goes_ Try.func16 (by kernel_rfl) rfl #[.slice A2 l2.length c2] (by rfl) rfl rfl zz3 ?_
 with_reducible refine (laws_toIntS.calls k _ _ l2 t591 _ ?side1 ?side2 A20.out).mono ?_
 (case side1 => exact zz20)
 (case side2 => exact HC2.out)
 rintro e w37 ⟨v592, rfl, ho0, hb⟩
 refine ⟨_, rfl, ?_⟩
 have n0_ := Aside0.mk (Kd.R_elder' zz13 (Kd.R_base ho0) hb)
 have n1_ := Aside0.mk (Kd.R_lower (Kd.R_new' ho0 (Kd.R_lt zz13)) (below_size zz4))
 have n2_ := Aside0.mk (blk_below (g := gb581) (o := .cells #[.int .i64 a0_0, .int .i64 a0_1, .slice A0_2 l0_2.length c0_2] 24 (0, 0)) zz2 hb)
 have n3_ := Aside0.mk (blk_below (g := gb582) (o := .cells #[.int .i64 a1_0, .int .i64 a1_1] 26 (0, 0)) zz5 hb)
 have n4_ := Aside0.mk (below_step zz4 hb)
 clear HO588
 clear BK581
 clear BK582
 clear HB
 have HO588 := n0_
 have HO593 := n1_
 have BK581 := n2_
 have BK582 := n3_
 have HB := n4_
 clear n0_ n1_ n2_ n3_ n4_
 (try clear hb)
 (try clear hb2)
 (try clear hk)
 (try clear hi)
 (try clear ho0)
 (try clear hna_)
 (try clear hnb_)
 refine hK.out _ _ ⟨(blk_cell BK581.out 0).trans rfl, (blk_cell BK581.out 1).trans rfl, (blk_cell BK581.out 2).trans rfl, (blk_cell BK582.out 0).trans rfl, (blk_cell BK582.out 1).trans rfl⟩ (fun hHeld => ?_)
 clear hK K
 refine norm_ (a' := ?_) ?_ ?_
 rotate_left
 ·show Act.put _ (some 34) _ = _
  simp only [Act.put, List.setIfInBounds_toArray, List.set_cons_zero, List.set_cons_succ, i64_w, i32_w]
  rfl
 refine one_ (i := 7) (N := some 36) #[true, true, true, true, true, true, true, true, false, false, false, false, false, false] rfl rfl (one_of HT_.out (by kernel_rfl)) (by decide) (fun K hK => ?_)
 refine goes_ Try.func16 (by kernel_rfl) rfl #[.slice A3 l3.length c3] (by rfl) rfl rfl zz3 ?_
 with_reducible refine (laws_toIntS.calls k _ _ l3 t594 _ ?side1 ?side2 A21.out).mono ?_
 (case side1 => exact zz32)
 (case side2 => exact HC3.out)
 rintro e w38 ⟨v595, rfl, ho0, hb⟩
 refine ⟨_, rfl, ?_⟩
 have n0_ := Aside0.mk (Kd.R_elder' zz13 (Kd.R_base ho0) hb)
 have n1_ := Aside0.mk (Kd.R_elder' zz15 (Kd.R_base ho0) hb)
 have n2_ := Aside0.mk (Kd.R_lower (Kd.R_new' (Kd.R_new' ho0 (Kd.R_lt zz13)) (Kd.R_lt zz15)) (below_size zz4))
 have n3_ := Aside0.mk (blk_below (g := gb581) (o := .cells #[.int .i64 a0_0, .int .i64 a0_1, .slice A0_2 l0_2.length c0_2] 24 (0, 0)) zz2 hb)
 have n4_ := Aside0.mk (blk_below (g := gb582) (o := .cells #[.int .i64 a1_0, .int .i64 a1_1] 26 (0, 0)) zz5 hb)
 have n5_ := Aside0.mk (below_step zz4 hb)
 clear HO588
 clear HO593
 clear BK581
 clear BK582
 clear HB
 have HO588 := n0_
 have HO593 := n1_
 have HO596 := n2_
 have BK581 := n3_
 have BK582 := n4_
 have HB := n5_
 clear n0_ n1_ n2_ n3_ n4_ n5_
 (try clear hb)
 (try clear hb2)
 (try clear hk)
 (try clear hi)
 (try clear ho0)
 (try clear hna_)
 (try clear hnb_)
 obtain ⟨Ao39, co39, eo39⟩ := Kd.R_slice HO588.out
 (first | subst eo39 | (injection eo39 with f1_ f2_ f3_; have f4_ := f1_.symm; have f5_ := f3_.symm; clear f1_ f2_ f3_; subst f4_; subst f5_))
 obtain ⟨Ao40, co40, eo40⟩ := Kd.R_slice HO593.out
 (first | subst eo40 | (injection eo40 with f1_ f2_ f3_; have f4_ := f1_.symm; have f5_ := f3_.symm; clear f1_ f2_ f3_; subst f4_; subst f5_))
 obtain ⟨Ao41, co41, eo41⟩ := Kd.R_slice HO596.out
 (first | subst eo41 | (injection eo41 with f1_ f2_ f3_; have f4_ := f1_.symm; have f5_ := f3_.symm; clear f1_ f2_ f3_; subst f4_; subst f5_))
 refine hK.out _ _ ⟨(blk_cell BK581.out 0).trans rfl, (blk_cell BK581.out 1).trans rfl, (blk_cell BK581.out 2).trans rfl, (blk_cell BK582.out 0).trans rfl, (blk_cell BK582.out 1).trans rfl⟩ (fun hHeld => ?_)
 clear hK K
 refine norm_ (a' := ?_) ?_ ?_
 rotate_left
 ·show Act.put _ (some 36) _ = _
  simp only [Act.put, List.setIfInBounds_toArray, List.set_cons_zero, List.set_cons_succ, i64_w, i32_w]
  rfl
 refine one_ (i := 8) (N := some 37) #[true, true, true, true, true, true, true, true, true, false, false, false, false, false] rfl rfl (one_of HT_.out (by kernel_rfl)) (by decide) (fun K hK => ?_)
 refine goes_ Try.func25 (by kernel_rfl) rfl #[.agg #[.int .i64 t584, .int .i64 t585, .slice Ao39 t586.length co39], .agg #[.int .i64 t589, .int .i64 t590], .slice Ao40 t591.length co40, .slice Ao41 t594.length co41] (by rfl) rfl rfl zz3 ?_
 with_reducible refine (spec_CountJoins.calls k t584 t585 _ _ t586 t589 t590 _ _ t591 _ _ t594 t597 t598 _ ?side1 ?side2 ?side3 ?side4 ?side5 ?side6 A22.out).mono ?_
 (case side1 => repeat (first | exact (Kd.R_reads' HO588.out).2.2 | (with_reducible refine Kd.C_alloc ?_ _) | (with_reducible refine Kd.C_drewN ?_ _) | (with_reducible refine Kd.C_drew ?_)))
 (case side2 => exact (Kd.R_reads' HO588.out).2.1)
 (case side3 => repeat (first | exact (Kd.R_reads' HO593.out).2.2 | (with_reducible refine Kd.C_alloc ?_ _) | (with_reducible refine Kd.C_drewN ?_ _) | (with_reducible refine Kd.C_drew ?_)))
 (case side4 => exact (Kd.R_reads' HO593.out).2.1)
 (case side5 => repeat (first | exact (Kd.R_reads' HO596.out).2.2 | (with_reducible refine Kd.C_alloc ?_ _) | (with_reducible refine Kd.C_drewN ?_ _) | (with_reducible refine Kd.C_drew ?_)))
 (case side6 => exact (Kd.R_reads' HO596.out).2.1)
 rintro e w42 ⟨rfl, hb⟩
 refine ⟨_, rfl, ?_⟩
 have n0_ := Aside0.mk (Kd.R_below zz13 hb)
 have n1_ := Aside0.mk (Kd.R_below zz15 hb)
 have n2_ := Aside0.mk (Kd.R_below zz16 hb)
 have n3_ := Aside0.mk (blk_below (g := gb581) (o := .cells #[.int .i64 a0_0, .int .i64 a0_1, .slice A0_2 l0_2.length c0_2] 24 (0, 0)) zz2 hb)
 have n4_ := Aside0.mk (blk_below (g := gb582) (o := .cells #[.int .i64 a1_0, .int .i64 a1_1] 26 (0, 0)) zz5 hb)
 have n5_ := Aside0.mk (below_step zz4 hb)
 clear HO588
 clear HO593
 clear HO596
 clear BK581
 clear BK582
 clear HB
 have HO588 := n0_
 have HO593 := n1_
 have HO596 := n2_
 have BK581 := n3_
 have BK582 := n4_
 have HB := n5_
 clear n0_ n1_ n2_ n3_ n4_ n5_
 (try clear hb)
 (try clear hb2)
 (try clear hk)
 (try clear hi)
 (try clear hna_)
 (try clear hnb_)
 refine hK.out _ _ ⟨(blk_cell BK581.out 0).trans rfl, (blk_cell BK581.out 1).trans rfl, (blk_cell BK581.out 2).trans rfl, (blk_cell BK582.out 0).trans rfl, (blk_cell BK582.out 1).trans rfl⟩ (fun hHeld => ?_)
 clear hK K
 refine norm_ (a' := ?_) ?_ ?_
 rotate_left
 ·show Act.put _ (some 37) _ = _
  simp only [Act.put, List.setIfInBounds_toArray, List.set_cons_zero, List.set_cons_succ, i64_w, i32_w]
  rfl
 refine pure_ (i := 9) (N := some 28) (v := ?_) (a' := ?_) #[true, true, true, true, true, true, true, true, true, true, false, false, false, false] rfl rfl (any_of HT_.out (by kernel_rfl)) (fun _ _ _ h => h) (Or.inl ⟨by rfl, ?_⟩) ?_ ?_
 rotate_left
 ·intro w'
  go_simp
  with_reducible rfl
 rotate_left
 ·simp only [Act.put, List.setIfInBounds_toArray, List.set_cons_zero, List.set_cons_succ, i64_w, i32_w]
  rfl
 refine pure_ (i := 10) (N := some 38) (v := ?_) (a' := ?_) #[true, true, true, true, true, true, true, true, true, true, true, false, false, false] rfl rfl (any_of HT_.out (by kernel_rfl)) (fun _ _ _ h => h) (Or.inl ⟨by rfl, ?_⟩) ?_ ?_
 rotate_left
 ·intro w'
  go_simp
  with_reducible rfl
 rotate_left
 ·simp only [Act.put, List.setIfInBounds_toArray, List.set_cons_zero, List.set_cons_succ, i64_w, i32_w]
  rfl
 refine pure_ (i := 11) (N := some 39) (v := ?_) (a' := ?_) #[true, true, true, true, true, true, true, true, true, true, true, true, false, false] rfl rfl (any_of HT_.out (by kernel_rfl)) (fun _ _ _ h => h) (Or.inl ⟨by rfl, ?_⟩) ?_ ?_
 rotate_left
 ·intro w'
  go_simp
  with_reducible rfl
 rotate_left
 ·simp only [Act.put, List.setIfInBounds_toArray, List.set_cons_zero, List.set_cons_succ, i64_w, i32_w]
  rfl
 refine pure_ (i := 12) (N := some 10) (v := ?_) (a' := ?_) #[true, true, true, true, true, true, true, true, true, true, true, true, true, false] rfl rfl (any_of HT_.out (by kernel_rfl)) (fun _ _ _ h => h) (Or.inl ⟨by rfl, ?_⟩) ?_ ?_
 rotate_left
 ·intro w'
  go_simp
  with_reducible rfl
 rotate_left
 ·simp only [Act.put, List.setIfInBounds_toArray, List.set_cons_zero, List.set_cons_succ, i64_w, i32_w]
  rfl
 refine pure_ (i := 13) (N := some 11) (v := ?_) (a' := ?_) #[true, true, true, true, true, true, true, true, true, true, true, true, true, true] rfl rfl (any_of HT_.out (by kernel_rfl)) (fun _ _ _ h => h) (Or.inl ⟨by rfl, ?_⟩) ?_ ?_
 rotate_left
 ·intro w'
  go_simp
  with_reducible rfl
 rotate_left
 ·simp only [Act.put, List.setIfInBounds_toArray, List.set_cons_zero, List.set_cons_succ, i64_w, i32_w]
  rfl
 refine done_ (done_of HT_.out (by kernel_rfl)) ?_
 have hcz43_0 : w42.cell? ⟨gb581, 0, none⟩ = some (.int .i64 a0_0) := (blk_cell BK581.out 0).trans rfl
 have hcz43_1 : w42.cell? ⟨gb581, 1, none⟩ = some (.int .i64 a0_1) := (blk_cell BK581.out 1).trans rfl
 have hcz43_2 : w42.cell? ⟨gb581, 2, none⟩ = some (.slice A0_2 l0_2.length c0_2) := (blk_cell BK581.out 2).trans rfl
 have hfz43_0 := blk_frozen BK581.out 0
 have hfz43_1 := blk_frozen BK581.out 1
 have hfz43_2 := blk_frozen BK581.out 2
 try go_wp2_with (first | ((with_reducible refine gate_callee (f := 14) rfl ?_); refine goesL_ (some 41) rfl rfl Try.func14 (by kernel_rfl) rfl #[.agg #[.int .i64 a0_0, .int .i64 a0_1, .slice A0_2 l0_2.length c0_2]] rfl zz3 ?_; (with_reducible refine (laws_toBoard.calls k a0_0 a0_1 _ _ l0_2 t599 t600 t601 _ ?side1 ?side2 A23.out).mono ?_); (case side1 => exact zz14); (case side2 => exact HC0_2.out); rintro e w44 ⟨v602, rfl, ho0, hb⟩; refine ⟨_, rfl, ?_⟩; have n0_ := Aside0.mk (Kd.R_elder' zz13 (Kd.R_base ho0) hb); have n1_ := Aside0.mk (Kd.R_elder' zz15 (Kd.R_base ho0) hb); have n2_ := Aside0.mk (Kd.R_elder' zz16 (Kd.R_base ho0) hb); have n3_ := Aside0.mk (Kd.R_lower (Kd.R_new' (Kd.R_new' (Kd.R_new' ho0 (Kd.R_lt zz13)) (Kd.R_lt zz15)) (Kd.R_lt zz16)) (below_size zz4)); have n4_ := Aside0.mk (blk_below (g := gb581) (o := .cells #[.int .i64 a0_0, .int .i64 a0_1, .slice A0_2 l0_2.length c0_2] 24 (0, 0)) zz2 hb); have n5_ := Aside0.mk (blk_below (g := gb582) (o := .cells #[.int .i64 a1_0, .int .i64 a1_1] 26 (0, 0)) zz5 hb); have n6_ := Aside0.mk (below_step zz4 hb); clear HO588; clear HO593; clear HO596; clear BK581; clear BK582; clear HB; have HO588 := n0_; have HO593 := n1_; have HO596 := n2_; have HO603 := n3_; have BK581 := n4_; have BK582 := n5_; have HB := n6_; clear n0_ n1_ n2_ n3_ n4_ n5_ n6_; (try clear hb); (try clear hb2); (try clear hk); (try clear hi); (try clear ho0); (try clear hna_); (try clear hnb_)) | ((with_reducible refine gate_dst (N := 12) rfl ?_); refine box_event ?hg (N := 12) ?hd (cs := #[.int .i64 0, .int .i64 0, .slice none 0 0]) (t := 30) ?hr ?_; (case hd => rfl); (case hg => rfl); (case hr => first | (go_simp; done) | (go_simp; rfl)); intro gb604 hg w45 hbox hb; have n0_ := Aside0.mk (Kd.R_below zz13 hb); have n1_ := Aside0.mk (Kd.R_below zz15 hb); have n2_ := Aside0.mk (Kd.R_below zz16 hb); have n3_ := Aside0.mk (Kd.R_below zz25 hb); have n4_ := Aside0.mk (blk_below (g := gb581) (o := .cells #[.int .i64 a0_0, .int .i64 a0_1, .slice A0_2 l0_2.length c0_2] 24 (0, 0)) zz2 hb); have n5_ := Aside0.mk (blk_below (g := gb582) (o := .cells #[.int .i64 a1_0, .int .i64 a1_1] 26 (0, 0)) zz5 hb); have n6_ := Aside0.mk (below_step zz4 hb); have n7_ := Aside0.mk (hbox); have n8_ := Aside0.mk ((by rw [hg]; exact (below_size zz4) : w.heap.size ≤ gb604)); have n9_ := Aside0.mk ((by rw [hg]; exact (below_size zz4) : w.heap.size ≤ gb604)); have n10_ := Aside0.mk ((zz36 : gb581 ≠ gb604)); have n11_ := Aside0.mk ((zz37 : gb604 ≠ gb581)); have n12_ := Aside0.mk ((by rw [hg]; exact Nat.ne_of_lt (blk_lt (g := gb582) (o := .cells #[.int .i64 a1_0, .int .i64 a1_1] 26 (0, 0)) zz5) : gb582 ≠ gb604)); have n13_ := Aside0.mk ((by rw [hg]; exact Nat.ne_of_gt (blk_lt (g := gb582) (o := .cells #[.int .i64 a1_0, .int .i64 a1_1] 26 (0, 0)) zz5) : gb604 ≠ gb582)); clear HO588; clear HO593; clear HO596; clear HO603; clear BK581; clear BK582; clear HB; have HO588 := n0_; have HO593 := n1_; have HO596 := n2_; have HO603 := n3_; have BK581 := n4_; have BK582 := n5_; have HB := n6_; have BK604 := n7_; have GW604 := n8_; have GE604 := n9_; have NB581_604 := n10_; have NB604_581 := n11_; have NB582_604 := n12_; have NB604_582 := n13_; clear n0_ n1_ n2_ n3_ n4_ n5_ n6_ n7_ n8_ n9_ n10_ n11_ n12_ n13_; clear hb hbox hg; have hnb46 := NB604_581.out; have hnc46 := NB581_604.out; have hnb47 := NB604_582.out; have hnc47 := NB582_604.out; have hcz48_0 : w45.cell? ⟨gb604, 0, none⟩ = some (.int .i64 0) := (blk_cell BK604.out 0).trans rfl; have hcz48_1 : w45.cell? ⟨gb604, 1, none⟩ = some (.int .i64 0) := (blk_cell BK604.out 1).trans rfl; have hcz48_2 : w45.cell? ⟨gb604, 2, none⟩ = some (.slice none 0 0) := (blk_cell BK604.out 2).trans rfl; have hfz48_0 := blk_frozen BK604.out 0; have hfz48_1 := blk_frozen BK604.out 1; have hfz48_2 := blk_frozen BK604.out 2; obtain ⟨Ao49, co49, eo49⟩ := Kd.R_slice HO603.out; subst eo49) | ((with_reducible refine gate_callee (f := 16) rfl ?_); refine goesL_ (some 43) rfl rfl Try.func16 (by kernel_rfl) rfl #[.slice A2 l2.length c2] rfl zz3 ?_; (with_reducible refine (laws_toIntS.calls k _ _ l2 t605 _ ?side1 ?side2 A24.out).mono ?_); (case side1 => exact Kd.C_below HR2.out zz1); (case side2 => exact HC2.out); rintro e w50 ⟨v606, rfl, ho0, hb⟩; refine ⟨_, rfl, ?_⟩; have n0_ := Aside0.mk (Kd.R_elder' zz24 (Kd.R_base ho0) hb); have n1_ := Aside0.mk (Kd.R_elder' zz23 (Kd.R_base ho0) hb); have n2_ := Aside0.mk (Kd.R_elder' zz22 (Kd.R_base ho0) hb); have n3_ := Aside0.mk (Kd.R_elder' zz21 (Kd.R_base ho0) hb); have n4_ := Aside0.mk (Kd.R_lower (Kd.R_new' (Kd.R_new' (Kd.R_new' (Kd.R_new' ho0 (Kd.R_lt zz24)) (Kd.R_lt zz23)) (Kd.R_lt zz22)) (Kd.R_lt zz21)) (below_size zz1)); have n5_ := Aside0.mk (blk_below (g := gb581) (o := .cells #[.int .i64 a0_0, .int .i64 a0_1, .slice A0_2 l0_2.length c0_2] 24 (0, 0)) (by (with_reducible repeat (first | refine blk_drewN ?_ _ | refine blk_drew ?_ | refine blk_alloc ?_ _)); refine blk_far ?_ NB581_604.out _; (with_reducible repeat (first | refine blk_drewN ?_ _ | refine blk_drew ?_ | refine blk_alloc ?_ _)); refine blk_far ?_ NB581_604.out _; (with_reducible repeat (first | refine blk_drewN ?_ _ | refine blk_drew ?_ | refine blk_alloc ?_ _)); refine blk_far ?_ NB581_604.out _; first | exact BK581.out | ((with_reducible repeat (first | refine blk_drewN ?_ _ | refine blk_drew ?_ | refine blk_alloc ?_ _)); exact BK581.out)) hb); have n6_ := Aside0.mk (blk_below (g := gb582) (o := .cells #[.int .i64 a1_0, .int .i64 a1_1] 26 (0, 0)) (by (with_reducible repeat (first | refine blk_drewN ?_ _ | refine blk_drew ?_ | refine blk_alloc ?_ _)); refine blk_far ?_ NB582_604.out _; (with_reducible repeat (first | refine blk_drewN ?_ _ | refine blk_drew ?_ | refine blk_alloc ?_ _)); refine blk_far ?_ NB582_604.out _; (with_reducible repeat (first | refine blk_drewN ?_ _ | refine blk_drew ?_ | refine blk_alloc ?_ _)); refine blk_far ?_ NB582_604.out _; first | exact BK582.out | ((with_reducible repeat (first | refine blk_drewN ?_ _ | refine blk_drew ?_ | refine blk_alloc ?_ _)); exact BK582.out)) hb); have n7_ := Aside0.mk (blk_below (g := gb604) (o := .cells #[.int .i64 t599, .int .i64 t600, .slice Ao49 t601.length co49] 30 (0, 0)) (by (with_reducible repeat (first | refine blk_drewN ?_ _ | refine blk_drew ?_ | refine blk_alloc ?_ _)); refine blk_put (cs := #[.int .i64 t599, .int .i64 t600, .slice none 0 0]) ?_ 2 _ rfl; (with_reducible repeat (first | refine blk_drewN ?_ _ | refine blk_drew ?_ | refine blk_alloc ?_ _)); refine blk_put (cs := #[.int .i64 t599, .int .i64 0, .slice none 0 0]) ?_ 1 _ rfl; (with_reducible repeat (first | refine blk_drewN ?_ _ | refine blk_drew ?_ | refine blk_alloc ?_ _)); refine blk_put (cs := #[.int .i64 0, .int .i64 0, .slice none 0 0]) ?_ 0 _ rfl; first | exact BK604.out | ((with_reducible repeat (first | refine blk_drewN ?_ _ | refine blk_drew ?_ | refine blk_alloc ?_ _)); exact BK604.out)) hb); have n8_ := Aside0.mk (below_step zz1 hb); clear HO588; clear HO593; clear HO596; clear HO603; clear BK581; clear BK582; clear BK604; clear HB; have HO588 := n0_; have HO593 := n1_; have HO596 := n2_; have HO603 := n3_; have HO607 := n4_; have BK581 := n5_; have BK582 := n6_; have BK604 := n7_; have HB := n8_; clear n0_ n1_ n2_ n3_ n4_ n5_ n6_ n7_ n8_; (try clear hb); (try clear hb2); (try clear hk); (try clear hi); (try clear ho0); (try clear hna_); (try clear hnb_)) | ((with_reducible refine gate_callee (f := 16) rfl ?_); refine goesL_ (some 45) rfl rfl Try.func16 (by kernel_rfl) rfl #[.slice A3 l3.length c3] rfl zz3 ?_; (with_reducible refine (laws_toIntS.calls k _ _ l3 t608 _ ?side1 ?side2 A25.out).mono ?_); (case side1 => exact zz32); (case side2 => exact HC3.out); rintro e w51 ⟨v609, rfl, ho0, hb⟩; refine ⟨_, rfl, ?_⟩; have n0_ := Aside0.mk (Kd.R_elder' zz13 (Kd.R_base ho0) hb); have n1_ := Aside0.mk (Kd.R_elder' zz15 (Kd.R_base ho0) hb); have n2_ := Aside0.mk (Kd.R_elder' zz16 (Kd.R_base ho0) hb); have n3_ := Aside0.mk (Kd.R_elder' zz25 (Kd.R_base ho0) hb); have n4_ := Aside0.mk (Kd.R_elder' zz29 (Kd.R_base ho0) hb); have n5_ := Aside0.mk (Kd.R_lower (Kd.R_new' (Kd.R_new' (Kd.R_new' (Kd.R_new' (Kd.R_new' ho0 (Kd.R_lt zz13)) (Kd.R_lt zz15)) (Kd.R_lt zz16)) (Kd.R_lt zz25)) (Kd.R_lt zz29)) (below_size zz1)); have n6_ := Aside0.mk (blk_below (g := gb581) (o := .cells #[.int .i64 a0_0, .int .i64 a0_1, .slice A0_2 l0_2.length c0_2] 24 (0, 0)) zz2 hb); have n7_ := Aside0.mk (blk_below (g := gb582) (o := .cells #[.int .i64 a1_0, .int .i64 a1_1] 26 (0, 0)) zz5 hb); have n8_ := Aside0.mk (blk_below (g := gb604) (o := .cells #[.int .i64 t599, .int .i64 t600, .slice Ao49 t601.length co49] 30 (0, 0)) zz9 hb); have n9_ := Aside0.mk (below_step zz1 hb); clear HO588; clear HO593; clear HO596; clear HO603; clear HO607; clear BK581; clear BK582; clear BK604; clear HB; have HO588 := n0_; have HO593 := n1_; have HO596 := n2_; have HO603 := n3_; have HO607 := n4_; have HO610 := n5_; have BK581 := n6_; have BK582 := n7_; have BK604 := n8_; have HB := n9_; clear n0_ n1_ n2_ n3_ n4_ n5_ n6_ n7_ n8_ n9_; (try clear hb); (try clear hb2); (try clear hk); (try clear hi); (try clear ho0); (try clear hna_); (try clear hnb_)))
 have n0_ := Aside0.mk (Kd.R_drew HO588.out)
 have n1_ := Aside0.mk (Kd.R_drew HO593.out)
 have n2_ := Aside0.mk (Kd.R_drew HO596.out)
 have n3_ := Aside0.mk (Kd.R_drew HO603.out)
 have n4_ := Aside0.mk (Kd.R_drew HO607.out)
 have n5_ := Aside0.mk (Kd.R_drew HO610.out)
 have n6_ := Aside0.mk (blk_drew BK581.out)
 have n7_ := Aside0.mk (blk_drew BK582.out)
 have n8_ := Aside0.mk (blk_drew BK604.out)
 have n9_ := Aside0.mk (below_drew1 HB.out)
 clear HO588
 clear HO593
 clear HO596
 clear HO603
 clear HO607
 clear HO610
 clear BK581
 clear BK582
 clear BK604
 clear HB
 have HO588 := n0_
 have HO593 := n1_
 have HO596 := n2_
 have HO603 := n3_
 have HO607 := n4_
 have HO610 := n5_
 have BK581 := n6_
 have BK582 := n7_
 have BK604 := n8_
 have HB := n9_
 clear n0_ n1_ n2_ n3_ n4_ n5_ n6_ n7_ n8_ n9_
 refine start_ (n := 11) (S := fun w' => w'.cell? ⟨gb604, 0, none⟩ = some (.int .i64 t599) ∧ w'.cell? ⟨gb604, 1, none⟩ = some (.int .i64 t600) ∧ w'.cell? ⟨gb604, 2, none⟩ = some (.slice Ao49 t601.length co49) ∧ w'.cell? ⟨gb582, 0, none⟩ = some (.int .i64 a1_0) ∧ w'.cell? ⟨gb582, 1, none⟩ = some (.int .i64 a1_1)) (ds := []) #[false, false, false, false, false, false, false, false, false, false, false] (by kernel_rfl) rfl rfl ⟨(blk_cell BK604.out 0).trans rfl, (blk_cell BK604.out 1).trans rfl, (blk_cell BK604.out 2).trans rfl, (blk_cell BK582.out 0).trans rfl, (blk_cell BK582.out 1).trans rfl⟩ (fun hHeld => ?_); refine with_tabW laws_FnExactCountJoins.tab13 laws_FnExactCountJoins.bits13 (fun HT_ HW_ => ?_)
 generalize w51.drew = w52 at HO588 HO593 HO596 HO603 HO607 HO610 BK581 BK582 BK604 HB hHeld ⊢
 refine pure_ (i := 3) (N := some 50) (v := ?_) (a' := ?_) #[false, false, false, true, false, false, false, false, false, false, false] rfl rfl (any_of HT_.out (by kernel_rfl)) (fun _ _ _ h => h) (Or.inl ⟨by rfl, ?_⟩) ?_ ?_
 rotate_left
 ·intro w'
  go_simp
  with_reducible rfl
 rotate_left
 ·simp only [Act.put, List.setIfInBounds_toArray, List.set_cons_zero, List.set_cons_succ, i64_w, i32_w]
  rfl
 refine pure_ (i := 4) (N := some 51) (v := ?_) (a' := ?_) #[false, false, false, true, true, false, false, false, false, false, false] rfl rfl (any_of HT_.out (by kernel_rfl)) (fun _ _ _ h => h) (Or.inl ⟨by rfl, ?_⟩) ?_ ?_
 rotate_left
 ·intro w'
  go_simp
  with_reducible rfl
 rotate_left
 ·simp only [Act.put, List.setIfInBounds_toArray, List.set_cons_zero, List.set_cons_succ, i64_w, i32_w]
  rfl
 refine take_ (i := 0) (N := some 47) (v := ?_) (a' := ?_) #[true, false, false, true, true, false, false, false, false, false, false] rfl rfl (take_ofW HT_.out HW_.out (by kernel_rfl)) (fun _ _ _ h => h) (Or.inl ⟨by rfl, ?_⟩) hHeld ?_ ?_
 rotate_left
 ·rintro w' ⟨s0, s1, s2, s3, s4⟩
  go_simp
  with_reducible rfl
 rotate_left
 ·simp only [Act.put, List.setIfInBounds_toArray, List.set_cons_zero, List.set_cons_succ, i64_w, i32_w]
  rfl
 refine take_ (i := 1) (N := some 48) (v := ?_) (a' := ?_) #[true, true, false, true, true, false, false, false, false, false, false] rfl rfl (take_ofW HT_.out HW_.out (by kernel_rfl)) (fun _ _ _ h => h) (Or.inl ⟨by rfl, ?_⟩) hHeld ?_ ?_
 rotate_left
 ·rintro w' ⟨s0, s1, s2, s3, s4⟩
  go_simp
  with_reducible rfl
 rotate_left
 ·simp only [Act.put, List.setIfInBounds_toArray, List.set_cons_zero, List.set_cons_succ, i64_w, i32_w]
  rfl
 refine one_ (i := 2) (N := some 49) #[true, true, true, true, true, false, false, false, false, false, false] rfl rfl (one_of HT_.out (by kernel_rfl)) (by decide) (fun K hK => ?_)
 refine goes_ Try.func15 (by kernel_rfl) rfl #[.agg #[.int .i64 a1_0, .int .i64 a1_1]] (by rfl) rfl rfl zz3 ?_
 with_reducible refine (laws_toLeaper.calls a1_0 a1_1 t611 t612 _ A26.out).mono ?_
 rintro e w53 ⟨rfl, hb⟩
 refine ⟨_, rfl, ?_⟩
 have n0_ := Aside0.mk (Kd.R_below zz13 hb)
 have n1_ := Aside0.mk (Kd.R_below zz15 hb)
 have n2_ := Aside0.mk (Kd.R_below zz16 hb)
 have n3_ := Aside0.mk (Kd.R_below zz25 hb)
 have n4_ := Aside0.mk (Kd.R_below zz29 hb)
 have n5_ := Aside0.mk (Kd.R_below (by first | exact HO610.out | ((with_reducible repeat (first | apply Kd.R_alloc | apply Kd.R_drewN | apply Kd.R_drew)); exact HO610.out)) hb)
 have n6_ := Aside0.mk (blk_below (g := gb581) (o := .cells #[.int .i64 a0_0, .int .i64 a0_1, .slice A0_2 l0_2.length c0_2] 24 (0, 0)) zz2 hb)
 have n7_ := Aside0.mk (blk_below (g := gb582) (o := .cells #[.int .i64 a1_0, .int .i64 a1_1] 26 (0, 0)) zz5 hb)
 have n8_ := Aside0.mk (blk_below (g := gb604) (o := .cells #[.int .i64 t599, .int .i64 t600, .slice Ao49 t601.length co49] 30 (0, 0)) zz9 hb)
 have n9_ := Aside0.mk (below_step zz1 hb)
 clear HO588
 clear HO593
 clear HO596
 clear HO603
 clear HO607
 clear HO610
 clear BK581
 clear BK582
 clear BK604
 clear HB
 have HO588 := n0_
 have HO593 := n1_
 have HO596 := n2_
 have HO603 := n3_
 have HO607 := n4_
 have HO610 := n5_
 have BK581 := n6_
 have BK582 := n7_
 have BK604 := n8_
 have HB := n9_
 clear n0_ n1_ n2_ n3_ n4_ n5_ n6_ n7_ n8_ n9_
 (try clear hb)
 (try clear hb2)
 (try clear hk)
 (try clear hi)
 (try clear hna_)
 (try clear hnb_)
 obtain ⟨Ao54, co54, eo54⟩ := Kd.R_slice HO607.out
 (first | subst eo54 | (injection eo54 with f1_ f2_ f3_; have f4_ := f1_.symm; have f5_ := f3_.symm; clear f1_ f2_ f3_; subst f4_; subst f5_))
 obtain ⟨Ao55, co55, eo55⟩ := Kd.R_slice HO610.out
 (first | subst eo55 | (injection eo55 with f1_ f2_ f3_; have f4_ := f1_.symm; have f5_ := f3_.symm; clear f1_ f2_ f3_; subst f4_; subst f5_))
 refine hK.out _ _ ⟨(blk_cell BK604.out 0).trans rfl, (blk_cell BK604.out 1).trans rfl, (blk_cell BK604.out 2).trans rfl, (blk_cell BK582.out 0).trans rfl, (blk_cell BK582.out 1).trans rfl⟩ (fun hHeld => ?_)
 clear hK K
 refine norm_ (a' := ?_) ?_ ?_
 rotate_left
 ·show Act.put _ (some 49) _ = _
  simp only [Act.put, List.setIfInBounds_toArray, List.set_cons_zero, List.set_cons_succ, i64_w, i32_w]
  rfl
 refine one_ (i := 5) (N := some 52) #[true, true, true, true, true, true, false, false, false, false, false] rfl rfl (one_of HT_.out (by kernel_rfl)) (by decide) (fun K hK => ?_)
 refine goes_ Try.func26 (by kernel_rfl) rfl #[.agg #[.int .i64 t599, .int .i64 t600, .slice Ao49 t601.length co49], .agg #[.int .i64 t611, .int .i64 t612], .slice Ao54 t605.length co54, .slice Ao55 t608.length co55] (by rfl) rfl rfl zz3 ?_
 with_reducible refine (impl_CountJoins.calls k t599 t600 _ _ t601 t611 t612 _ _ t605 _ _ t608 t613 t614 _ ?side1 ?side2 ?side3 ?side4 ?side5 ?side6 A27.out).mono ?_
 (case side1 => repeat (first | exact (Kd.R_reads' HO603.out).2.2 | (with_reducible refine Kd.C_alloc ?_ _) | (with_reducible refine Kd.C_drewN ?_ _) | (with_reducible refine Kd.C_drew ?_)))
 (case side2 => exact (Kd.R_reads' HO603.out).2.1)
 (case side3 => repeat (first | exact (Kd.R_reads' HO607.out).2.2 | (with_reducible refine Kd.C_alloc ?_ _) | (with_reducible refine Kd.C_drewN ?_ _) | (with_reducible refine Kd.C_drew ?_)))
 (case side4 => exact (Kd.R_reads' HO607.out).2.1)
 (case side5 => repeat (first | exact (Kd.R_reads' HO610.out).2.2 | (with_reducible refine Kd.C_alloc ?_ _) | (with_reducible refine Kd.C_drewN ?_ _) | (with_reducible refine Kd.C_drew ?_)))
 (case side6 => exact (Kd.R_reads' HO610.out).2.1)
 rintro e w56 ⟨rfl, hb⟩
 refine ⟨_, rfl, ?_⟩
 have n0_ := Aside0.mk (Kd.R_below zz13 hb)
 have n1_ := Aside0.mk (Kd.R_below zz15 hb)
 have n2_ := Aside0.mk (Kd.R_below zz16 hb)
 have n3_ := Aside0.mk (Kd.R_below zz25 hb)
 have n4_ := Aside0.mk (Kd.R_below zz29 hb)
 have n5_ := Aside0.mk (Kd.R_below (by first | exact HO610.out | ((with_reducible repeat (first | apply Kd.R_alloc | apply Kd.R_drewN | apply Kd.R_drew)); exact HO610.out)) hb)
 have n6_ := Aside0.mk (blk_below (g := gb581) (o := .cells #[.int .i64 a0_0, .int .i64 a0_1, .slice A0_2 l0_2.length c0_2] 24 (0, 0)) zz2 hb)
 have n7_ := Aside0.mk (blk_below (g := gb582) (o := .cells #[.int .i64 a1_0, .int .i64 a1_1] 26 (0, 0)) zz5 hb)
 have n8_ := Aside0.mk (blk_below (g := gb604) (o := .cells #[.int .i64 t599, .int .i64 t600, .slice Ao49 t601.length co49] 30 (0, 0)) zz9 hb)
 have n9_ := Aside0.mk (below_step zz1 hb)
 clear HO588
 clear HO593
 clear HO596
 clear HO603
 clear HO607
 clear HO610
 clear BK581
 clear BK582
 clear BK604
 clear HB
 have HO588 := n0_
 have HO593 := n1_
 have HO596 := n2_
 have HO603 := n3_
 have HO607 := n4_
 have HO610 := n5_
 have BK581 := n6_
 have BK582 := n7_
 have BK604 := n8_
 have HB := n9_
 clear n0_ n1_ n2_ n3_ n4_ n5_ n6_ n7_ n8_ n9_
 (try clear hb)
 (try clear hb2)
 (try clear hk)
 (try clear hi)
 (try clear hna_)
 (try clear hnb_)
 refine hK.out _ _ ⟨(blk_cell BK604.out 0).trans rfl, (blk_cell BK604.out 1).trans rfl, (blk_cell BK604.out 2).trans rfl, (blk_cell BK582.out 0).trans rfl, (blk_cell BK582.out 1).trans rfl⟩ (fun hHeld => ?_)
 clear hK K
 refine norm_ (a' := ?_) ?_ ?_
 rotate_left
 ·show Act.put _ (some 52) _ = _
  simp only [Act.put, List.setIfInBounds_toArray, List.set_cons_zero, List.set_cons_succ, i64_w, i32_w]
  rfl
 refine pure_ (i := 6) (N := some 46) (v := ?_) (a' := ?_) #[true, true, true, true, true, true, true, false, false, false, false] rfl rfl (any_of HT_.out (by kernel_rfl)) (fun _ _ _ h => h) (Or.inl ⟨by rfl, ?_⟩) ?_ ?_
 rotate_left
 ·intro w'
  go_simp
  with_reducible rfl
 rotate_left
 ·simp only [Act.put, List.setIfInBounds_toArray, List.set_cons_zero, List.set_cons_succ, i64_w, i32_w]
  rfl
 refine pure_ (i := 7) (N := some 53) (v := ?_) (a' := ?_) #[true, true, true, true, true, true, true, true, false, false, false] rfl rfl (any_of HT_.out (by kernel_rfl)) (fun _ _ _ h => h) (Or.inl ⟨by rfl, ?_⟩) ?_ ?_
 rotate_left
 ·intro w'
  go_simp
  with_reducible rfl
 rotate_left
 ·simp only [Act.put, List.setIfInBounds_toArray, List.set_cons_zero, List.set_cons_succ, i64_w, i32_w]
  rfl
 refine pure_ (i := 8) (N := some 54) (v := ?_) (a' := ?_) #[true, true, true, true, true, true, true, true, true, false, false] rfl rfl (any_of HT_.out (by kernel_rfl)) (fun _ _ _ h => h) (Or.inl ⟨by rfl, ?_⟩) ?_ ?_
 rotate_left
 ·intro w'
  go_simp
  with_reducible rfl
 rotate_left
 ·simp only [Act.put, List.setIfInBounds_toArray, List.set_cons_zero, List.set_cons_succ, i64_w, i32_w]
  rfl
 refine pure_ (i := 9) (N := some 15) (v := ?_) (a' := ?_) #[true, true, true, true, true, true, true, true, true, true, false] rfl rfl (any_of HT_.out (by kernel_rfl)) (fun _ _ _ h => h) (Or.inl ⟨by rfl, ?_⟩) ?_ ?_
 rotate_left
 ·intro w'
  go_simp
  with_reducible rfl
 rotate_left
 ·simp only [Act.put, List.setIfInBounds_toArray, List.set_cons_zero, List.set_cons_succ, i64_w, i32_w]
  rfl
 refine pure_ (i := 10) (N := some 16) (v := ?_) (a' := ?_) #[true, true, true, true, true, true, true, true, true, true, true] rfl rfl (any_of HT_.out (by kernel_rfl)) (fun _ _ _ h => h) (Or.inl ⟨by rfl, ?_⟩) ?_ ?_
 rotate_left
 ·intro w'
  go_simp
  with_reducible rfl
 rotate_left
 ·simp only [Act.put, List.setIfInBounds_toArray, List.set_cons_zero, List.set_cons_succ, i64_w, i32_w]
  rfl
 refine done_ (done_of HT_.out (by kernel_rfl)) ?_
 go_upto_region 14 with (fail)
 go_cut [62] (fun v62 wc => ∃ (kq : Nat) (x62_27 : Bool), v62 = .bool x62_27 ∧ Aside0 (laws_FnExactCountJoins.j0 kq l2 l3 t605 t608 x62_27 a0_0 a0_1 l0_2 t599 t600 t601 = some r) ∧ Aside0 (kq ≤ k) ∧ Aside0 (Kd.R (Kd.int .i64) 3 wc w.heap.size (fun k_ => some k_ ≠ ((.slice Ao55 t608.length co55) : Value).ownBlock ∧ some k_ ≠ ((.slice Ao49 t601.length co49) : Value).ownBlock) (.slice Ao54 t605.length co54) t605) ∧ Aside0 (Kd.R (Kd.int .i64) 3 wc w.heap.size (fun k_ => some k_ ≠ ((.slice Ao54 t605.length co54) : Value).ownBlock ∧ some k_ ≠ ((.slice Ao49 t601.length co49) : Value).ownBlock) (.slice Ao55 t608.length co55) t608) ∧ Aside0 (Kd.R (Kd.int .i64) 3 wc w.heap.size (fun k_ => some k_ ≠ ((.slice Ao54 t605.length co54) : Value).ownBlock ∧ some k_ ≠ ((.slice Ao55 t608.length co55) : Value).ownBlock) (.slice Ao49 t601.length co49) t601) ∧ Aside0 (wc.heap[gb581]? = some (.cells #[.int .i64 a0_0, .int .i64 a0_1, (.slice A0_2 l0_2.length c0_2)] 24 (0, 0))) ∧ Aside0 (wc.heap[gb582]? = some (.cells #[.int .i64 a1_0, .int .i64 a1_1] 26 (0, 0))) ∧ Aside0 (wc.heap[gb604]? = some (.cells #[.int .i64 t599, .int .i64 t600, (.slice Ao49 t601.length co49)] 30 (0, 0))) ∧ Aside0 (Below w.heap.size w wc))
 case first =>
  have H := HC28.out
  clear HC28
  by_cases c57 : t613 = t597
  rotate_left
  ·rw [if_neg c57] at H
   have c57b0 : (t613 == t597) = false := beq_eq_false_iff_ne.mpr c57
   have c57b1 : (t613 != t597) = true := bne_iff_ne.mpr c57
   (first | rw [c57b0] | (simp only [i64_w, i32_w]; rw [c57b0]) | skip)
   have H' := Aside0.mk H
   clear H
   go_wp2
   go_meet
   case rel => exact ⟨_, (true), (by first | rfl | (simp; done) | (simp [*]; done)), H', ⟨by first | omega | exact Nat.le_refl _⟩, ⟨zz34⟩, ⟨zz33⟩, ⟨zz35⟩, ⟨zz2⟩, ⟨zz5⟩, ⟨zz9⟩, ⟨zz1⟩⟩
  rw [if_pos c57] at H
  have c57b0 : (t613 == t597) = true := beq_iff_eq.mpr c57
  have c57b1 : (t613 != t597) = false := bne_eq_false_iff_eq.mpr c57
  clear c57
  (first | rw [c57b0] | (simp only [i64_w, i32_w]; rw [c57b0]) | skip)
  have H' := Aside0.mk H
  clear H
  go_wp2
  go_meet
  case rel => exact ⟨_, ((t614 != t598)), (by first | rfl | (simp; done) | (simp [*]; done)), H', ⟨by first | omega | exact Nat.le_refl _⟩, ⟨zz34⟩, ⟨zz33⟩, ⟨zz35⟩, ⟨zz2⟩, ⟨zz5⟩, ⟨zz9⟩, ⟨zz1⟩⟩
 case rest =>
  clear HC28
  try clear c1; try clear c2; try clear p2; try clear c3; try clear c4; try clear c5; try clear c8; try clear c8b0; try clear c8b1; try clear c12; try clear c12b0; try clear c14; try clear c15; try clear c16; try clear c25; try clear c26; try clear c31; try clear c46; try clear c47; try clear c57; try clear c57b0; try clear c57b1; try clear hcz16_0; try clear hcz16_1; try clear hcz16_2; try clear hcz32_0; try clear hcz32_1; try clear hcz32_2; try clear hcz43_0; try clear hcz43_1; try clear hcz43_2; try clear hcz48_0; try clear hcz48_1; try clear hcz48_2; try clear hfz16_0; try clear hfz16_1; try clear hfz16_2
  try clear hfz32_0; try clear hfz32_1; try clear hfz32_2; try clear hfz43_0; try clear hfz43_1; try clear hfz43_2; try clear hfz48_0; try clear hfz48_1; try clear hfz48_2
  obtain ⟨kq, x62_27, rfl, HA, HJ27, HO_13, HO_14, HO_605002, BK581, BK582, BK604, HB⟩ := hcut
  cases kq with
  | zero => exact absurd HA.out (by simp [laws_FnExactCountJoins.j0])
  | succ kj27 =>
   have H := HA.out
   clear HA
   simp only [laws_FnExactCountJoins.j0] at H
   by_cases c58 : x62_27 = true
   ·subst c58
    have H1 : (some false) = some r := by rw [if_pos rfl] at H; exact H
    clear H
    have H := H1
    clear H1
    obtain rfl := Option.some.inj H
    go_wp2
    go_ret
    exact ⟨zz17, zz1⟩
   replace c58 := Bool.eq_false_iff.mpr c58
   subst c58
   have H1 : ((laws_toBoard.f kj27 a0_0 a0_1 l0_2).bind fun bt615 => ((laws_eqBoard.f kj27 t599 t600 t601 bt615.1 bt615.2.1 bt615.2.2).bind fun t620 => (if t620 = true then ((laws_toIntS.f kj27 l2).bind fun t621 => ((laws_eqIntS.f kj27 t605 t621).bind fun t624 => (if t624 = true then ((laws_toIntS.f kj27 l3).bind fun t625 => ((laws_eqIntS.f kj27 t608 t625).bind fun t628 => (if t628 = true then (some true) else (some false)))) else (some false)))) else (some false)))) = some r := by rw [if_neg (show ¬ (false = true) by decide)] at H; exact H
   clear H
   have H := H1
   clear H1
   replace H := Option.bind_eq_some_iff.mp H
   obtain ⟨⟨t615, t616, t617⟩, A590, H⟩ := H
   replace H : ((laws_eqBoard.f kj27 t599 t600 t601 t615 t616 t617).bind fun t620 => (if t620 = true then ((laws_toIntS.f kj27 l2).bind fun t621 => ((laws_eqIntS.f kj27 t605 t621).bind fun t624 => (if t624 = true then ((laws_toIntS.f kj27 l3).bind fun t625 => ((laws_eqIntS.f kj27 t608 t625).bind fun t628 => (if t628 = true then (some true) else (some false)))) else (some false)))) else (some false))) = some r := H
   have A59 := Aside0.mk A590
   clear A590
   replace H := Option.bind_eq_some_iff.mp H
   obtain ⟨t620, A600, H⟩ := H
   replace H : (if t620 = true then ((laws_toIntS.f kj27 l2).bind fun t621 => ((laws_eqIntS.f kj27 t605 t621).bind fun t624 => (if t624 = true then ((laws_toIntS.f kj27 l3).bind fun t625 => ((laws_eqIntS.f kj27 t608 t625).bind fun t628 => (if t628 = true then (some true) else (some false)))) else (some false)))) else (some false)) = some r := H
   have A60 := Aside0.mk A600
   clear A600
   by_cases c61 : t620 = true
   rotate_left
   ·replace c61 := Bool.eq_false_iff.mpr c61
    subst c61
    have H1 : (some false) = some r := by rw [if_neg (show ¬ (false = true) by decide)] at H; exact H
    clear H
    have H := H1
    clear H1
    obtain rfl := Option.some.inj H
    try go_wp2
    have n0_ := Aside0.mk (Kd.R_drew HO_13.out)
    have n1_ := Aside0.mk (Kd.R_drew HO_14.out)
    have n2_ := Aside0.mk (Kd.R_drew HO_605002.out)
    have n3_ := Aside0.mk (blk_drew BK581.out)
    have n4_ := Aside0.mk (blk_drew BK582.out)
    have n5_ := Aside0.mk (blk_drew BK604.out)
    have n6_ := Aside0.mk (below_drew1 HB.out)
    clear HO_13
    clear HO_14
    clear HO_605002
    clear BK581
    clear BK582
    clear BK604
    clear HB
    have HO_13 := n0_
    have HO_14 := n1_
    have HO_605002 := n2_
    have BK581 := n3_
    have BK582 := n4_
    have BK604 := n5_
    have HB := n6_
    clear n0_ n1_ n2_ n3_ n4_ n5_ n6_
    refine start_ (n := 5) (S := fun w' => w'.cell? ⟨gb604, 0, none⟩ = some (.int .i64 t599) ∧ w'.cell? ⟨gb604, 1, none⟩ = some (.int .i64 t600) ∧ w'.cell? ⟨gb604, 2, none⟩ = some (.slice Ao49 t601.length co49) ∧ w'.cell? ⟨gb581, 0, none⟩ = some (.int .i64 a0_0) ∧ w'.cell? ⟨gb581, 1, none⟩ = some (.int .i64 a0_1) ∧ w'.cell? ⟨gb581, 2, none⟩ = some (.slice A0_2 l0_2.length c0_2)) (ds := []) #[false, false, false, false, false] (by kernel_rfl) rfl rfl ⟨(blk_cell BK604.out 0).trans rfl, (blk_cell BK604.out 1).trans rfl, (blk_cell BK604.out 2).trans rfl, (blk_cell BK581.out 0).trans rfl, (blk_cell BK581.out 1).trans rfl, (blk_cell BK581.out 2).trans rfl⟩ (fun hHeld => ?_)
    generalize wc.drew = w90 at HO_13 HO_14 HO_605002 BK581 BK582 BK604 HB hHeld ⊢
    refine take_ (i := 0) (N := some 63) (v := ?_) (a' := ?_) #[true, false, false, false, false] rfl rfl (by kernel_rfl) (fun _ _ _ h => h) (Or.inl ⟨by rfl, ?_⟩) hHeld ?_ ?_
    rotate_left
    ·rintro w' ⟨s0, s1, s2, s3, s4, s5⟩
     go_simp
     with_reducible rfl
    rotate_left
    ·simp only [Act.put, List.setIfInBounds_toArray, List.set_cons_zero, List.set_cons_succ, i64_w, i32_w]
     rfl
    refine take_ (i := 1) (N := some 64) (v := ?_) (a' := ?_) #[true, true, false, false, false] rfl rfl (by kernel_rfl) (fun _ _ _ h => h) (Or.inl ⟨by rfl, ?_⟩) hHeld ?_ ?_
    rotate_left
    ·rintro w' ⟨s0, s1, s2, s3, s4, s5⟩
     go_simp
     with_reducible rfl
    rotate_left
    ·simp only [Act.put, List.setIfInBounds_toArray, List.set_cons_zero, List.set_cons_succ, i64_w, i32_w]
     rfl
    refine one_ (i := 2) (N := some 65) #[true, true, true, false, false] rfl rfl (by kernel_rfl) (by decide) (fun K hK => ?_)
    refine goes_ Try.func14 (by kernel_rfl) rfl #[.agg #[.int .i64 a0_0, .int .i64 a0_1, .slice A0_2 l0_2.length c0_2]] (by rfl) rfl rfl zz3 ?_
    with_reducible refine (laws_toBoard.calls kj27 a0_0 a0_1 _ _ l0_2 t615 t616 t617 _ ?side1 ?side2 A59.out).mono ?_
    (case side1 => exact zz14)
    (case side2 => exact HC0_2.out)
    rintro e w91 ⟨v618, rfl, ho0, hb⟩
    refine ⟨_, rfl, ?_⟩
    have n0_ := Aside0.mk (Kd.R_elder' zz8 (Kd.R_base ho0) hb)
    have n1_ := Aside0.mk (Kd.R_elder' zz7 (Kd.R_base ho0) hb)
    have n2_ := Aside0.mk (Kd.R_elder' zz6 (Kd.R_base ho0) hb)
    have n3_ := Aside0.mk (Kd.R_lower (Kd.R_new' (Kd.R_new' (Kd.R_new' ho0 (Kd.R_lt zz8)) (Kd.R_lt zz7)) (Kd.R_lt zz6)) (below_size zz1))
    have n4_ := Aside0.mk (blk_below (g := gb581) (o := .cells #[.int .i64 a0_0, .int .i64 a0_1, .slice A0_2 l0_2.length c0_2] 24 (0, 0)) zz2 hb)
    have n5_ := Aside0.mk (blk_below (g := gb582) (o := .cells #[.int .i64 a1_0, .int .i64 a1_1] 26 (0, 0)) zz5 hb)
    have n6_ := Aside0.mk (blk_below (g := gb604) (o := .cells #[.int .i64 t599, .int .i64 t600, .slice Ao49 t601.length co49] 30 (0, 0)) zz9 hb)
    have n7_ := Aside0.mk (below_step zz1 hb)
    clear HO_13
    clear HO_14
    clear HO_605002
    clear BK581
    clear BK582
    clear BK604
    clear HB
    have HO_13 := n0_
    have HO_14 := n1_
    have HO_605002 := n2_
    have HO619 := n3_
    have BK581 := n4_
    have BK582 := n5_
    have BK604 := n6_
    have HB := n7_
    clear n0_ n1_ n2_ n3_ n4_ n5_ n6_ n7_
    (try clear hb)
    (try clear hb2)
    (try clear hk)
    (try clear hi)
    (try clear ho0)
    (try clear hna_)
    (try clear hnb_)
    obtain ⟨Ao92, co92, eo92⟩ := Kd.R_slice HO619.out
    (first | subst eo92 | (injection eo92 with f1_ f2_ f3_; have f4_ := f1_.symm; have f5_ := f3_.symm; clear f1_ f2_ f3_; subst f4_; subst f5_))
    refine hK.out _ _ ⟨(blk_cell BK604.out 0).trans rfl, (blk_cell BK604.out 1).trans rfl, (blk_cell BK604.out 2).trans rfl, (blk_cell BK581.out 0).trans rfl, (blk_cell BK581.out 1).trans rfl, (blk_cell BK581.out 2).trans rfl⟩ (fun hHeld => ?_)
    clear hK K
    refine norm_ (a' := ?_) ?_ ?_
    rotate_left
    ·show Act.put _ (some 65) _ = _
     simp only [Act.put, List.setIfInBounds_toArray, List.set_cons_zero, List.set_cons_succ, i64_w, i32_w]
     rfl
    refine one_ (i := 3) (N := some 66) #[true, true, true, true, false] rfl rfl (by kernel_rfl) (by decide) (fun K hK => ?_)
    refine goes_ Try.func19 (by kernel_rfl) rfl #[.agg #[.int .i64 t599, .int .i64 t600, .slice Ao49 t601.length co49], .agg #[.int .i64 t615, .int .i64 t616, .slice Ao92 t617.length co92]] (by rfl) rfl rfl zz3 ?_
    with_reducible refine (laws_eqBoard.calls kj27 t599 t600 _ _ t601 t615 t616 _ _ t617 false _ ?side1 ?side2 ?side3 ?side4 A60.out).mono ?_
    (case side1 => exact zz18)
    (case side2 => exact (Kd.R_reads' HO_605002.out).2.1)
    (case side3 => exact zz19)
    (case side4 => exact (Kd.R_reads' HO619.out).2.1)
    rintro e w93 ⟨rfl, hb⟩
    refine ⟨_, rfl, ?_⟩
    have n0_ := Aside0.mk (Kd.R_below zz8 hb)
    have n1_ := Aside0.mk (Kd.R_below zz7 hb)
    have n2_ := Aside0.mk (Kd.R_below zz6 hb)
    have n3_ := Aside0.mk (Kd.R_below zz12 hb)
    have n4_ := Aside0.mk (blk_below (g := gb581) (o := .cells #[.int .i64 a0_0, .int .i64 a0_1, .slice A0_2 l0_2.length c0_2] 24 (0, 0)) zz2 hb)
    have n5_ := Aside0.mk (blk_below (g := gb582) (o := .cells #[.int .i64 a1_0, .int .i64 a1_1] 26 (0, 0)) zz5 hb)
    have n6_ := Aside0.mk (blk_below (g := gb604) (o := .cells #[.int .i64 t599, .int .i64 t600, .slice Ao49 t601.length co49] 30 (0, 0)) zz9 hb)
    have n7_ := Aside0.mk (below_step zz1 hb)
    clear HO_13
    clear HO_14
    clear HO_605002
    clear HO619
    clear BK581
    clear BK582
    clear BK604
    clear HB
    have HO_13 := n0_
    have HO_14 := n1_
    have HO_605002 := n2_
    have HO619 := n3_
    have BK581 := n4_
    have BK582 := n5_
    have BK604 := n6_
    have HB := n7_
    clear n0_ n1_ n2_ n3_ n4_ n5_ n6_ n7_
    (try clear hb)
    (try clear hb2)
    (try clear hk)
    (try clear hi)
    (try clear hna_)
    (try clear hnb_)
    refine hK.out _ _ ⟨(blk_cell BK604.out 0).trans rfl, (blk_cell BK604.out 1).trans rfl, (blk_cell BK604.out 2).trans rfl, (blk_cell BK581.out 0).trans rfl, (blk_cell BK581.out 1).trans rfl, (blk_cell BK581.out 2).trans rfl⟩ (fun hHeld => ?_)
    clear hK K
    refine norm_ (a' := ?_) ?_ ?_
    rotate_left
    ·show Act.put _ (some 66) _ = _
     simp only [Act.put, List.setIfInBounds_toArray, List.set_cons_zero, List.set_cons_succ, i64_w, i32_w]
     rfl
    refine pure_ (i := 4) (N := some 67) (v := ?_) (a' := ?_) #[true, true, true, true, true] rfl rfl (by kernel_rfl) (fun _ _ _ h => h) (Or.inl ⟨by rfl, ?_⟩) ?_ ?_
    rotate_left
    ·intro w'
     go_simp
     with_reducible rfl
    rotate_left
    ·simp only [Act.put, List.setIfInBounds_toArray, List.set_cons_zero, List.set_cons_succ, i64_w, i32_w]
     rfl
    refine done_ (by kernel_rfl) ?_
    try go_wp2
    go_ret
    exact ⟨zz17, zz1⟩
   subst c61
   have H1 : ((laws_toIntS.f kj27 l2).bind fun t621 => ((laws_eqIntS.f kj27 t605 t621).bind fun t624 => (if t624 = true then ((laws_toIntS.f kj27 l3).bind fun t625 => ((laws_eqIntS.f kj27 t608 t625).bind fun t628 => (if t628 = true then (some true) else (some false)))) else (some false)))) = some r := by rw [if_pos rfl] at H; exact H
   clear H
   have H := H1
   clear H1
   replace H := Option.bind_eq_some_iff.mp H
   obtain ⟨t621, A620, H⟩ := H
   replace H : ((laws_eqIntS.f kj27 t605 t621).bind fun t624 => (if t624 = true then ((laws_toIntS.f kj27 l3).bind fun t625 => ((laws_eqIntS.f kj27 t608 t625).bind fun t628 => (if t628 = true then (some true) else (some false)))) else (some false))) = some r := H
   have A62 := Aside0.mk A620
   clear A620
   replace H := Option.bind_eq_some_iff.mp H
   obtain ⟨t624, A630, H⟩ := H
   replace H : (if t624 = true then ((laws_toIntS.f kj27 l3).bind fun t625 => ((laws_eqIntS.f kj27 t608 t625).bind fun t628 => (if t628 = true then (some true) else (some false)))) else (some false)) = some r := H
   have A63 := Aside0.mk A630
   clear A630
   by_cases c64 : t624 = true
   rotate_left
   ·replace c64 := Bool.eq_false_iff.mpr c64
    subst c64
    have H1 : (some false) = some r := by rw [if_neg (show ¬ (false = true) by decide)] at H; exact H
    clear H
    have H := H1
    clear H1
    obtain rfl := Option.some.inj H
    try go_wp2
    have n0_ := Aside0.mk (Kd.R_drew HO_13.out)
    have n1_ := Aside0.mk (Kd.R_drew HO_14.out)
    have n2_ := Aside0.mk (Kd.R_drew HO_605002.out)
    have n3_ := Aside0.mk (blk_drew BK581.out)
    have n4_ := Aside0.mk (blk_drew BK582.out)
    have n5_ := Aside0.mk (blk_drew BK604.out)
    have n6_ := Aside0.mk (below_drew1 HB.out)
    clear HO_13
    clear HO_14
    clear HO_605002
    clear BK581
    clear BK582
    clear BK604
    clear HB
    have HO_13 := n0_
    have HO_14 := n1_
    have HO_605002 := n2_
    have BK581 := n3_
    have BK582 := n4_
    have BK604 := n5_
    have HB := n6_
    clear n0_ n1_ n2_ n3_ n4_ n5_ n6_
    refine start_ (n := 5) (S := fun w' => w'.cell? ⟨gb604, 0, none⟩ = some (.int .i64 t599) ∧ w'.cell? ⟨gb604, 1, none⟩ = some (.int .i64 t600) ∧ w'.cell? ⟨gb604, 2, none⟩ = some (.slice Ao49 t601.length co49) ∧ w'.cell? ⟨gb581, 0, none⟩ = some (.int .i64 a0_0) ∧ w'.cell? ⟨gb581, 1, none⟩ = some (.int .i64 a0_1) ∧ w'.cell? ⟨gb581, 2, none⟩ = some (.slice A0_2 l0_2.length c0_2)) (ds := []) #[false, false, false, false, false] (by kernel_rfl) rfl rfl ⟨(blk_cell BK604.out 0).trans rfl, (blk_cell BK604.out 1).trans rfl, (blk_cell BK604.out 2).trans rfl, (blk_cell BK581.out 0).trans rfl, (blk_cell BK581.out 1).trans rfl, (blk_cell BK581.out 2).trans rfl⟩ (fun hHeld => ?_)
    generalize wc.drew = w84 at HO_13 HO_14 HO_605002 BK581 BK582 BK604 HB hHeld ⊢
    refine take_ (i := 0) (N := some 63) (v := ?_) (a' := ?_) #[true, false, false, false, false] rfl rfl (by kernel_rfl) (fun _ _ _ h => h) (Or.inl ⟨by rfl, ?_⟩) hHeld ?_ ?_
    rotate_left
    ·rintro w' ⟨s0, s1, s2, s3, s4, s5⟩
     go_simp
     with_reducible rfl
    rotate_left
    ·simp only [Act.put, List.setIfInBounds_toArray, List.set_cons_zero, List.set_cons_succ, i64_w, i32_w]
     rfl
    refine take_ (i := 1) (N := some 64) (v := ?_) (a' := ?_) #[true, true, false, false, false] rfl rfl (by kernel_rfl) (fun _ _ _ h => h) (Or.inl ⟨by rfl, ?_⟩) hHeld ?_ ?_
    rotate_left
    ·rintro w' ⟨s0, s1, s2, s3, s4, s5⟩
     go_simp
     with_reducible rfl
    rotate_left
    ·simp only [Act.put, List.setIfInBounds_toArray, List.set_cons_zero, List.set_cons_succ, i64_w, i32_w]
     rfl
    refine one_ (i := 2) (N := some 65) #[true, true, true, false, false] rfl rfl (by kernel_rfl) (by decide) (fun K hK => ?_)
    refine goes_ Try.func14 (by kernel_rfl) rfl #[.agg #[.int .i64 a0_0, .int .i64 a0_1, .slice A0_2 l0_2.length c0_2]] (by rfl) rfl rfl zz3 ?_
    with_reducible refine (laws_toBoard.calls kj27 a0_0 a0_1 _ _ l0_2 t615 t616 t617 _ ?side1 ?side2 A59.out).mono ?_
    (case side1 => exact zz14)
    (case side2 => exact HC0_2.out)
    rintro e w85 ⟨v618, rfl, ho0, hb⟩
    refine ⟨_, rfl, ?_⟩
    have n0_ := Aside0.mk (Kd.R_elder' zz8 (Kd.R_base ho0) hb)
    have n1_ := Aside0.mk (Kd.R_elder' zz7 (Kd.R_base ho0) hb)
    have n2_ := Aside0.mk (Kd.R_elder' zz6 (Kd.R_base ho0) hb)
    have n3_ := Aside0.mk (Kd.R_lower (Kd.R_new' (Kd.R_new' (Kd.R_new' ho0 (Kd.R_lt zz8)) (Kd.R_lt zz7)) (Kd.R_lt zz6)) (below_size zz1))
    have n4_ := Aside0.mk (blk_below (g := gb581) (o := .cells #[.int .i64 a0_0, .int .i64 a0_1, .slice A0_2 l0_2.length c0_2] 24 (0, 0)) zz2 hb)
    have n5_ := Aside0.mk (blk_below (g := gb582) (o := .cells #[.int .i64 a1_0, .int .i64 a1_1] 26 (0, 0)) zz5 hb)
    have n6_ := Aside0.mk (blk_below (g := gb604) (o := .cells #[.int .i64 t599, .int .i64 t600, .slice Ao49 t601.length co49] 30 (0, 0)) zz9 hb)
    have n7_ := Aside0.mk (below_step zz1 hb)
    clear HO_13
    clear HO_14
    clear HO_605002
    clear BK581
    clear BK582
    clear BK604
    clear HB
    have HO_13 := n0_
    have HO_14 := n1_
    have HO_605002 := n2_
    have HO619 := n3_
    have BK581 := n4_
    have BK582 := n5_
    have BK604 := n6_
    have HB := n7_
    clear n0_ n1_ n2_ n3_ n4_ n5_ n6_ n7_
    (try clear hb)
    (try clear hb2)
    (try clear hk)
    (try clear hi)
    (try clear ho0)
    (try clear hna_)
    (try clear hnb_)
    obtain ⟨Ao86, co86, eo86⟩ := Kd.R_slice HO619.out
    (first | subst eo86 | (injection eo86 with f1_ f2_ f3_; have f4_ := f1_.symm; have f5_ := f3_.symm; clear f1_ f2_ f3_; subst f4_; subst f5_))
    refine hK.out _ _ ⟨(blk_cell BK604.out 0).trans rfl, (blk_cell BK604.out 1).trans rfl, (blk_cell BK604.out 2).trans rfl, (blk_cell BK581.out 0).trans rfl, (blk_cell BK581.out 1).trans rfl, (blk_cell BK581.out 2).trans rfl⟩ (fun hHeld => ?_)
    clear hK K
    refine norm_ (a' := ?_) ?_ ?_
    rotate_left
    ·show Act.put _ (some 65) _ = _
     simp only [Act.put, List.setIfInBounds_toArray, List.set_cons_zero, List.set_cons_succ, i64_w, i32_w]
     rfl
    refine one_ (i := 3) (N := some 66) #[true, true, true, true, false] rfl rfl (by kernel_rfl) (by decide) (fun K hK => ?_)
    refine goes_ Try.func19 (by kernel_rfl) rfl #[.agg #[.int .i64 t599, .int .i64 t600, .slice Ao49 t601.length co49], .agg #[.int .i64 t615, .int .i64 t616, .slice Ao86 t617.length co86]] (by rfl) rfl rfl zz3 ?_
    with_reducible refine (laws_eqBoard.calls kj27 t599 t600 _ _ t601 t615 t616 _ _ t617 true _ ?side1 ?side2 ?side3 ?side4 A60.out).mono ?_
    (case side1 => exact zz18)
    (case side2 => exact (Kd.R_reads' HO_605002.out).2.1)
    (case side3 => exact zz19)
    (case side4 => exact (Kd.R_reads' HO619.out).2.1)
    rintro e w87 ⟨rfl, hb⟩
    refine ⟨_, rfl, ?_⟩
    have n0_ := Aside0.mk (Kd.R_below zz8 hb)
    have n1_ := Aside0.mk (Kd.R_below zz7 hb)
    have n2_ := Aside0.mk (Kd.R_below zz6 hb)
    have n3_ := Aside0.mk (Kd.R_below zz12 hb)
    have n4_ := Aside0.mk (blk_below (g := gb581) (o := .cells #[.int .i64 a0_0, .int .i64 a0_1, .slice A0_2 l0_2.length c0_2] 24 (0, 0)) zz2 hb)
    have n5_ := Aside0.mk (blk_below (g := gb582) (o := .cells #[.int .i64 a1_0, .int .i64 a1_1] 26 (0, 0)) zz5 hb)
    have n6_ := Aside0.mk (blk_below (g := gb604) (o := .cells #[.int .i64 t599, .int .i64 t600, .slice Ao49 t601.length co49] 30 (0, 0)) zz9 hb)
    have n7_ := Aside0.mk (below_step zz1 hb)
    clear HO_13
    clear HO_14
    clear HO_605002
    clear HO619
    clear BK581
    clear BK582
    clear BK604
    clear HB
    have HO_13 := n0_
    have HO_14 := n1_
    have HO_605002 := n2_
    have HO619 := n3_
    have BK581 := n4_
    have BK582 := n5_
    have BK604 := n6_
    have HB := n7_
    clear n0_ n1_ n2_ n3_ n4_ n5_ n6_ n7_
    (try clear hb)
    (try clear hb2)
    (try clear hk)
    (try clear hi)
    (try clear hna_)
    (try clear hnb_)
    refine hK.out _ _ ⟨(blk_cell BK604.out 0).trans rfl, (blk_cell BK604.out 1).trans rfl, (blk_cell BK604.out 2).trans rfl, (blk_cell BK581.out 0).trans rfl, (blk_cell BK581.out 1).trans rfl, (blk_cell BK581.out 2).trans rfl⟩ (fun hHeld => ?_)
    clear hK K
    refine norm_ (a' := ?_) ?_ ?_
    rotate_left
    ·show Act.put _ (some 66) _ = _
     simp only [Act.put, List.setIfInBounds_toArray, List.set_cons_zero, List.set_cons_succ, i64_w, i32_w]
     rfl
    refine pure_ (i := 4) (N := some 67) (v := ?_) (a' := ?_) #[true, true, true, true, true] rfl rfl (by kernel_rfl) (fun _ _ _ h => h) (Or.inl ⟨by rfl, ?_⟩) ?_ ?_
    rotate_left
    ·intro w'
     go_simp
     with_reducible rfl
    rotate_left
    ·simp only [Act.put, List.setIfInBounds_toArray, List.set_cons_zero, List.set_cons_succ, i64_w, i32_w]
     rfl
    refine done_ (by kernel_rfl) ?_
    try go_wp2_with (first | ((with_reducible refine gate_callee (f := 16) rfl ?_); refine goesL_ (some 70) rfl rfl Try.func16 (by kernel_rfl) rfl #[.slice A2 l2.length c2] rfl zz3 ?_; (with_reducible refine (laws_toIntS.calls kj27 _ _ l2 t621 _ ?side1 ?side2 A62.out).mono ?_); (case side1 => exact zz20); (case side2 => exact HC2.out); rintro e w88 ⟨v622, rfl, ho0, hb⟩; refine ⟨_, rfl, ?_⟩; have n0_ := Aside0.mk (Kd.R_elder' zz8 (Kd.R_base ho0) hb); have n1_ := Aside0.mk (Kd.R_elder' zz7 (Kd.R_base ho0) hb); have n2_ := Aside0.mk (Kd.R_elder' zz6 (Kd.R_base ho0) hb); have n3_ := Aside0.mk (Kd.R_elder' zz12 (Kd.R_base ho0) hb); have n4_ := Aside0.mk (Kd.R_lower (Kd.R_new' (Kd.R_new' (Kd.R_new' (Kd.R_new' ho0 (Kd.R_lt zz8)) (Kd.R_lt zz7)) (Kd.R_lt zz6)) (Kd.R_lt zz12)) (below_size zz1)); have n5_ := Aside0.mk (blk_below (g := gb581) (o := .cells #[.int .i64 a0_0, .int .i64 a0_1, .slice A0_2 l0_2.length c0_2] 24 (0, 0)) zz2 hb); have n6_ := Aside0.mk (blk_below (g := gb582) (o := .cells #[.int .i64 a1_0, .int .i64 a1_1] 26 (0, 0)) zz5 hb); have n7_ := Aside0.mk (blk_below (g := gb604) (o := .cells #[.int .i64 t599, .int .i64 t600, .slice Ao49 t601.length co49] 30 (0, 0)) zz9 hb); have n8_ := Aside0.mk (below_step zz1 hb); clear HO_13; clear HO_14; clear HO_605002; clear HO619; clear BK581; clear BK582; clear BK604; clear HB; have HO_13 := n0_; have HO_14 := n1_; have HO_605002 := n2_; have HO619 := n3_; have HO623 := n4_; have BK581 := n5_; have BK582 := n6_; have BK604 := n7_; have HB := n8_; clear n0_ n1_ n2_ n3_ n4_ n5_ n6_ n7_ n8_; (try clear hb); (try clear hb2); (try clear hk); (try clear hi); (try clear ho0); (try clear hna_); (try clear hnb_); obtain ⟨Ao89, co89, eo89⟩ := Kd.R_slice HO623.out; subst eo89) | ((with_reducible refine gate_callee (f := 18) rfl ?_); refine goesL_ (some 71) rfl rfl Try.func18 (by kernel_rfl) rfl #[.slice Ao54 t605.length co54, .slice Ao89 t621.length co89] rfl zz3 ?_; (with_reducible refine (laws_eqIntS.calls kj27 _ _ t605 _ _ t621 false _ ?side1 ?side2 ?side3 ?side4 A63.out).mono ?_); (case side1 => exact zz26); (case side2 => exact (Kd.R_reads' HO_13.out).2.1); (case side3 => exact zz27); (case side4 => exact (Kd.R_reads' HO623.out).2.1); rintro e w' ⟨rfl, ⟨nd, rfl⟩⟩; refine ⟨_, rfl, ?_⟩))
    go_ret
    exact ⟨zz17, zz1⟩
   subst c64
   have H1 : ((laws_toIntS.f kj27 l3).bind fun t625 => ((laws_eqIntS.f kj27 t608 t625).bind fun t628 => (if t628 = true then (some true) else (some false)))) = some r := by rw [if_pos rfl] at H; exact H
   clear H
   have H := H1
   clear H1
   replace H := Option.bind_eq_some_iff.mp H
   obtain ⟨t625, A650, H⟩ := H
   replace H : ((laws_eqIntS.f kj27 t608 t625).bind fun t628 => (if t628 = true then (some true) else (some false))) = some r := H
   have A65 := Aside0.mk A650
   clear A650
   replace H := Option.bind_eq_some_iff.mp H
   obtain ⟨t628, A660, H⟩ := H
   replace H : (if t628 = true then (some true) else (some false)) = some r := H
   have A66 := Aside0.mk A660
   clear A660
   by_cases c67 : t628 = true
   ·subst c67
    have H1 : (some true) = some r := by rw [if_pos rfl] at H; exact H
    clear H
    have H := H1
    clear H1
    obtain rfl := Option.some.inj H
    try go_wp2
    have n0_ := Aside0.mk (Kd.R_drew HO_13.out)
    have n1_ := Aside0.mk (Kd.R_drew HO_14.out)
    have n2_ := Aside0.mk (Kd.R_drew HO_605002.out)
    have n3_ := Aside0.mk (blk_drew BK581.out)
    have n4_ := Aside0.mk (blk_drew BK582.out)
    have n5_ := Aside0.mk (blk_drew BK604.out)
    have n6_ := Aside0.mk (below_drew1 HB.out)
    clear HO_13
    clear HO_14
    clear HO_605002
    clear BK581
    clear BK582
    clear BK604
    clear HB
    have HO_13 := n0_
    have HO_14 := n1_
    have HO_605002 := n2_
    have BK581 := n3_
    have BK582 := n4_
    have BK604 := n5_
    have HB := n6_
    clear n0_ n1_ n2_ n3_ n4_ n5_ n6_
    refine start_ (n := 5) (S := fun w' => w'.cell? ⟨gb604, 0, none⟩ = some (.int .i64 t599) ∧ w'.cell? ⟨gb604, 1, none⟩ = some (.int .i64 t600) ∧ w'.cell? ⟨gb604, 2, none⟩ = some (.slice Ao49 t601.length co49) ∧ w'.cell? ⟨gb581, 0, none⟩ = some (.int .i64 a0_0) ∧ w'.cell? ⟨gb581, 1, none⟩ = some (.int .i64 a0_1) ∧ w'.cell? ⟨gb581, 2, none⟩ = some (.slice A0_2 l0_2.length c0_2)) (ds := []) #[false, false, false, false, false] (by kernel_rfl) rfl rfl ⟨(blk_cell BK604.out 0).trans rfl, (blk_cell BK604.out 1).trans rfl, (blk_cell BK604.out 2).trans rfl, (blk_cell BK581.out 0).trans rfl, (blk_cell BK581.out 1).trans rfl, (blk_cell BK581.out 2).trans rfl⟩ (fun hHeld => ?_)
    generalize wc.drew = w68 at HO_13 HO_14 HO_605002 BK581 BK582 BK604 HB hHeld ⊢
    refine take_ (i := 0) (N := some 63) (v := ?_) (a' := ?_) #[true, false, false, false, false] rfl rfl (by kernel_rfl) (fun _ _ _ h => h) (Or.inl ⟨by rfl, ?_⟩) hHeld ?_ ?_
    rotate_left
    ·rintro w' ⟨s0, s1, s2, s3, s4, s5⟩
     go_simp
     with_reducible rfl
    rotate_left
    ·simp only [Act.put, List.setIfInBounds_toArray, List.set_cons_zero, List.set_cons_succ, i64_w, i32_w]
     rfl
    refine take_ (i := 1) (N := some 64) (v := ?_) (a' := ?_) #[true, true, false, false, false] rfl rfl (by kernel_rfl) (fun _ _ _ h => h) (Or.inl ⟨by rfl, ?_⟩) hHeld ?_ ?_
    rotate_left
    ·rintro w' ⟨s0, s1, s2, s3, s4, s5⟩
     go_simp
     with_reducible rfl
    rotate_left
    ·simp only [Act.put, List.setIfInBounds_toArray, List.set_cons_zero, List.set_cons_succ, i64_w, i32_w]
     rfl
    refine one_ (i := 2) (N := some 65) #[true, true, true, false, false] rfl rfl (by kernel_rfl) (by decide) (fun K hK => ?_)
    refine goes_ Try.func14 (by kernel_rfl) rfl #[.agg #[.int .i64 a0_0, .int .i64 a0_1, .slice A0_2 l0_2.length c0_2]] (by rfl) rfl rfl zz3 ?_
    with_reducible refine (laws_toBoard.calls kj27 a0_0 a0_1 _ _ l0_2 t615 t616 t617 _ ?side1 ?side2 A59.out).mono ?_
    (case side1 => exact zz14)
    (case side2 => exact HC0_2.out)
    rintro e w69 ⟨v618, rfl, ho0, hb⟩
    refine ⟨_, rfl, ?_⟩
    have n0_ := Aside0.mk (Kd.R_elder' zz8 (Kd.R_base ho0) hb)
    have n1_ := Aside0.mk (Kd.R_elder' zz7 (Kd.R_base ho0) hb)
    have n2_ := Aside0.mk (Kd.R_elder' zz6 (Kd.R_base ho0) hb)
    have n3_ := Aside0.mk (Kd.R_lower (Kd.R_new' (Kd.R_new' (Kd.R_new' ho0 (Kd.R_lt zz8)) (Kd.R_lt zz7)) (Kd.R_lt zz6)) (below_size zz1))
    have n4_ := Aside0.mk (blk_below (g := gb581) (o := .cells #[.int .i64 a0_0, .int .i64 a0_1, .slice A0_2 l0_2.length c0_2] 24 (0, 0)) zz2 hb)
    have n5_ := Aside0.mk (blk_below (g := gb582) (o := .cells #[.int .i64 a1_0, .int .i64 a1_1] 26 (0, 0)) zz5 hb)
    have n6_ := Aside0.mk (blk_below (g := gb604) (o := .cells #[.int .i64 t599, .int .i64 t600, .slice Ao49 t601.length co49] 30 (0, 0)) zz9 hb)
    have n7_ := Aside0.mk (below_step zz1 hb)
    clear HO_13
    clear HO_14
    clear HO_605002
    clear BK581
    clear BK582
    clear BK604
    clear HB
    have HO_13 := n0_
    have HO_14 := n1_
    have HO_605002 := n2_
    have HO619 := n3_
    have BK581 := n4_
    have BK582 := n5_
    have BK604 := n6_
    have HB := n7_
    clear n0_ n1_ n2_ n3_ n4_ n5_ n6_ n7_
    (try clear hb)
    (try clear hb2)
    (try clear hk)
    (try clear hi)
    (try clear ho0)
    (try clear hna_)
    (try clear hnb_)
    obtain ⟨Ao70, co70, eo70⟩ := Kd.R_slice HO619.out
    (first | subst eo70 | (injection eo70 with f1_ f2_ f3_; have f4_ := f1_.symm; have f5_ := f3_.symm; clear f1_ f2_ f3_; subst f4_; subst f5_))
    refine hK.out _ _ ⟨(blk_cell BK604.out 0).trans rfl, (blk_cell BK604.out 1).trans rfl, (blk_cell BK604.out 2).trans rfl, (blk_cell BK581.out 0).trans rfl, (blk_cell BK581.out 1).trans rfl, (blk_cell BK581.out 2).trans rfl⟩ (fun hHeld => ?_)
    clear hK K
    refine norm_ (a' := ?_) ?_ ?_
    rotate_left
    ·show Act.put _ (some 65) _ = _
     simp only [Act.put, List.setIfInBounds_toArray, List.set_cons_zero, List.set_cons_succ, i64_w, i32_w]
     rfl
    refine one_ (i := 3) (N := some 66) #[true, true, true, true, false] rfl rfl (by kernel_rfl) (by decide) (fun K hK => ?_)
    refine goes_ Try.func19 (by kernel_rfl) rfl #[.agg #[.int .i64 t599, .int .i64 t600, .slice Ao49 t601.length co49], .agg #[.int .i64 t615, .int .i64 t616, .slice Ao70 t617.length co70]] (by rfl) rfl rfl zz3 ?_
    with_reducible refine (laws_eqBoard.calls kj27 t599 t600 _ _ t601 t615 t616 _ _ t617 true _ ?side1 ?side2 ?side3 ?side4 A60.out).mono ?_
    (case side1 => exact zz18)
    (case side2 => exact (Kd.R_reads' HO_605002.out).2.1)
    (case side3 => exact zz19)
    (case side4 => exact (Kd.R_reads' HO619.out).2.1)
    rintro e w71 ⟨rfl, hb⟩
    refine ⟨_, rfl, ?_⟩
    have n0_ := Aside0.mk (Kd.R_below zz8 hb)
    have n1_ := Aside0.mk (Kd.R_below zz7 hb)
    have n2_ := Aside0.mk (Kd.R_below zz6 hb)
    have n3_ := Aside0.mk (Kd.R_below zz12 hb)
    have n4_ := Aside0.mk (blk_below (g := gb581) (o := .cells #[.int .i64 a0_0, .int .i64 a0_1, .slice A0_2 l0_2.length c0_2] 24 (0, 0)) zz2 hb)
    have n5_ := Aside0.mk (blk_below (g := gb582) (o := .cells #[.int .i64 a1_0, .int .i64 a1_1] 26 (0, 0)) zz5 hb)
    have n6_ := Aside0.mk (blk_below (g := gb604) (o := .cells #[.int .i64 t599, .int .i64 t600, .slice Ao49 t601.length co49] 30 (0, 0)) zz9 hb)
    have n7_ := Aside0.mk (below_step zz1 hb)
    clear HO_13
    clear HO_14
    clear HO_605002
    clear HO619
    clear BK581
    clear BK582
    clear BK604
    clear HB
    have HO_13 := n0_
    have HO_14 := n1_
    have HO_605002 := n2_
    have HO619 := n3_
    have BK581 := n4_
    have BK582 := n5_
    have BK604 := n6_
    have HB := n7_
    clear n0_ n1_ n2_ n3_ n4_ n5_ n6_ n7_
    (try clear hb)
    (try clear hb2)
    (try clear hk)
    (try clear hi)
    (try clear hna_)
    (try clear hnb_)
    refine hK.out _ _ ⟨(blk_cell BK604.out 0).trans rfl, (blk_cell BK604.out 1).trans rfl, (blk_cell BK604.out 2).trans rfl, (blk_cell BK581.out 0).trans rfl, (blk_cell BK581.out 1).trans rfl, (blk_cell BK581.out 2).trans rfl⟩ (fun hHeld => ?_)
    clear hK K
    refine norm_ (a' := ?_) ?_ ?_
    rotate_left
    ·show Act.put _ (some 66) _ = _
     simp only [Act.put, List.setIfInBounds_toArray, List.set_cons_zero, List.set_cons_succ, i64_w, i32_w]
     rfl
    refine pure_ (i := 4) (N := some 67) (v := ?_) (a' := ?_) #[true, true, true, true, true] rfl rfl (by kernel_rfl) (fun _ _ _ h => h) (Or.inl ⟨by rfl, ?_⟩) ?_ ?_
    rotate_left
    ·intro w'
     go_simp
     with_reducible rfl
    rotate_left
    ·simp only [Act.put, List.setIfInBounds_toArray, List.set_cons_zero, List.set_cons_succ, i64_w, i32_w]
     rfl
    refine done_ (by kernel_rfl) ?_
    try go_wp2_with (first | ((with_reducible refine gate_callee (f := 16) rfl ?_); refine goesL_ (some 70) rfl rfl Try.func16 (by kernel_rfl) rfl #[.slice A2 l2.length c2] rfl zz3 ?_; (with_reducible refine (laws_toIntS.calls kj27 _ _ l2 t621 _ ?side1 ?side2 A62.out).mono ?_); (case side1 => exact zz20); (case side2 => exact HC2.out); rintro e w72 ⟨v622, rfl, ho0, hb⟩; refine ⟨_, rfl, ?_⟩; have n0_ := Aside0.mk (Kd.R_elder' zz8 (Kd.R_base ho0) hb); have n1_ := Aside0.mk (Kd.R_elder' zz7 (Kd.R_base ho0) hb); have n2_ := Aside0.mk (Kd.R_elder' zz6 (Kd.R_base ho0) hb); have n3_ := Aside0.mk (Kd.R_elder' zz12 (Kd.R_base ho0) hb); have n4_ := Aside0.mk (Kd.R_lower (Kd.R_new' (Kd.R_new' (Kd.R_new' (Kd.R_new' ho0 (Kd.R_lt zz8)) (Kd.R_lt zz7)) (Kd.R_lt zz6)) (Kd.R_lt zz12)) (below_size zz1)); have n5_ := Aside0.mk (blk_below (g := gb581) (o := .cells #[.int .i64 a0_0, .int .i64 a0_1, .slice A0_2 l0_2.length c0_2] 24 (0, 0)) zz2 hb); have n6_ := Aside0.mk (blk_below (g := gb582) (o := .cells #[.int .i64 a1_0, .int .i64 a1_1] 26 (0, 0)) zz5 hb); have n7_ := Aside0.mk (blk_below (g := gb604) (o := .cells #[.int .i64 t599, .int .i64 t600, .slice Ao49 t601.length co49] 30 (0, 0)) zz9 hb); have n8_ := Aside0.mk (below_step zz1 hb); clear HO_13; clear HO_14; clear HO_605002; clear HO619; clear BK581; clear BK582; clear BK604; clear HB; have HO_13 := n0_; have HO_14 := n1_; have HO_605002 := n2_; have HO619 := n3_; have HO623 := n4_; have BK581 := n5_; have BK582 := n6_; have BK604 := n7_; have HB := n8_; clear n0_ n1_ n2_ n3_ n4_ n5_ n6_ n7_ n8_; (try clear hb); (try clear hb2); (try clear hk); (try clear hi); (try clear ho0); (try clear hna_); (try clear hnb_); obtain ⟨Ao73, co73, eo73⟩ := Kd.R_slice HO623.out; subst eo73) | ((with_reducible refine gate_callee (f := 18) rfl ?_); refine goesL_ (some 71) rfl rfl Try.func18 (by kernel_rfl) rfl #[.slice Ao54 t605.length co54, .slice Ao73 t621.length co73] rfl zz3 ?_; (with_reducible refine (laws_eqIntS.calls kj27 _ _ t605 _ _ t621 true _ ?side1 ?side2 ?side3 ?side4 A63.out).mono ?_); (case side1 => exact zz26); (case side2 => exact (Kd.R_reads' HO_13.out).2.1); (case side3 => exact zz27); (case side4 => exact (Kd.R_reads' HO623.out).2.1); rintro e w' ⟨rfl, ⟨nd, rfl⟩⟩; refine ⟨_, rfl, ?_⟩) | ((with_reducible refine gate_callee (f := 16) rfl ?_); refine goesL_ (some 75) rfl rfl Try.func16 (by kernel_rfl) rfl #[.slice A3 l3.length c3] rfl zz3 ?_; (with_reducible refine (laws_toIntS.calls kj27 _ _ l3 t625 _ ?side1 ?side2 A65.out).mono ?_); (case side1 => exact zz40); (case side2 => exact HC3.out); rintro e w74 ⟨v626, rfl, ho0, hb⟩; refine ⟨_, rfl, ?_⟩; have n0_ := Aside0.mk (Kd.R_elder' zz8 (Kd.R_base ho0) hb); have n1_ := Aside0.mk (Kd.R_elder' zz7 (Kd.R_base ho0) hb); have n2_ := Aside0.mk (Kd.R_elder' zz6 (Kd.R_base ho0) hb); have n3_ := Aside0.mk (Kd.R_elder' zz12 (Kd.R_base ho0) hb); have n4_ := Aside0.mk (Kd.R_elder' zz28 (Kd.R_base ho0) hb); have n5_ := Aside0.mk (Kd.R_lower (Kd.R_new' (Kd.R_new' (Kd.R_new' (Kd.R_new' (Kd.R_new' ho0 (Kd.R_lt zz8)) (Kd.R_lt zz7)) (Kd.R_lt zz6)) (Kd.R_lt zz12)) (Kd.R_lt zz28)) (below_size zz1)); have n6_ := Aside0.mk (blk_below (g := gb581) (o := .cells #[.int .i64 a0_0, .int .i64 a0_1, .slice A0_2 l0_2.length c0_2] 24 (0, 0)) zz2 hb); have n7_ := Aside0.mk (blk_below (g := gb582) (o := .cells #[.int .i64 a1_0, .int .i64 a1_1] 26 (0, 0)) zz5 hb); have n8_ := Aside0.mk (blk_below (g := gb604) (o := .cells #[.int .i64 t599, .int .i64 t600, .slice Ao49 t601.length co49] 30 (0, 0)) zz9 hb); have n9_ := Aside0.mk (below_step zz1 hb); clear HO_13; clear HO_14; clear HO_605002; clear HO619; clear HO623; clear BK581; clear BK582; clear BK604; clear HB; have HO_13 := n0_; have HO_14 := n1_; have HO_605002 := n2_; have HO619 := n3_; have HO623 := n4_; have HO627 := n5_; have BK581 := n6_; have BK582 := n7_; have BK604 := n8_; have HB := n9_; clear n0_ n1_ n2_ n3_ n4_ n5_ n6_ n7_ n8_ n9_; (try clear hb); (try clear hb2); (try clear hk); (try clear hi); (try clear ho0); (try clear hna_); (try clear hnb_); obtain ⟨Ao75, co75, eo75⟩ := Kd.R_slice HO627.out; subst eo75) | ((with_reducible refine gate_callee (f := 18) rfl ?_); refine goesL_ (some 76) rfl rfl Try.func18 (by kernel_rfl) rfl #[.slice Ao55 t608.length co55, .slice Ao75 t625.length co75] rfl zz3 ?_; (with_reducible refine (laws_eqIntS.calls kj27 _ _ t608 _ _ t625 true _ ?side1 ?side2 ?side3 ?side4 A66.out).mono ?_); (case side1 => exact zz30); (case side2 => exact (Kd.R_reads' HO_14.out).2.1); (case side3 => exact zz31); (case side4 => exact (Kd.R_reads' HO627.out).2.1); rintro e w' ⟨rfl, ⟨nd, rfl⟩⟩; refine ⟨_, rfl, ?_⟩))
    go_ret
    exact ⟨zz17, zz1⟩
   replace c67 := Bool.eq_false_iff.mpr c67
   subst c67
   have H1 : (some false) = some r := by rw [if_neg (show ¬ (false = true) by decide)] at H; exact H
   clear H
   have H := H1
   clear H1
   obtain rfl := Option.some.inj H
   try go_wp2
   have n0_ := Aside0.mk (Kd.R_drew HO_13.out)
   have n1_ := Aside0.mk (Kd.R_drew HO_14.out)
   have n2_ := Aside0.mk (Kd.R_drew HO_605002.out)
   have n3_ := Aside0.mk (blk_drew BK581.out)
   have n4_ := Aside0.mk (blk_drew BK582.out)
   have n5_ := Aside0.mk (blk_drew BK604.out)
   have n6_ := Aside0.mk (below_drew1 HB.out)
   clear HO_13
   clear HO_14
   clear HO_605002
   clear BK581
   clear BK582
   clear BK604
   clear HB
   have HO_13 := n0_
   have HO_14 := n1_
   have HO_605002 := n2_
   have BK581 := n3_
   have BK582 := n4_
   have BK604 := n5_
   have HB := n6_
   clear n0_ n1_ n2_ n3_ n4_ n5_ n6_
   refine start_ (n := 5) (S := fun w' => w'.cell? ⟨gb604, 0, none⟩ = some (.int .i64 t599) ∧ w'.cell? ⟨gb604, 1, none⟩ = some (.int .i64 t600) ∧ w'.cell? ⟨gb604, 2, none⟩ = some (.slice Ao49 t601.length co49) ∧ w'.cell? ⟨gb581, 0, none⟩ = some (.int .i64 a0_0) ∧ w'.cell? ⟨gb581, 1, none⟩ = some (.int .i64 a0_1) ∧ w'.cell? ⟨gb581, 2, none⟩ = some (.slice A0_2 l0_2.length c0_2)) (ds := []) #[false, false, false, false, false] (by kernel_rfl) rfl rfl ⟨(blk_cell BK604.out 0).trans rfl, (blk_cell BK604.out 1).trans rfl, (blk_cell BK604.out 2).trans rfl, (blk_cell BK581.out 0).trans rfl, (blk_cell BK581.out 1).trans rfl, (blk_cell BK581.out 2).trans rfl⟩ (fun hHeld => ?_)
   generalize wc.drew = w76 at HO_13 HO_14 HO_605002 BK581 BK582 BK604 HB hHeld ⊢
   refine take_ (i := 0) (N := some 63) (v := ?_) (a' := ?_) #[true, false, false, false, false] rfl rfl (by kernel_rfl) (fun _ _ _ h => h) (Or.inl ⟨by rfl, ?_⟩) hHeld ?_ ?_
   rotate_left
   ·rintro w' ⟨s0, s1, s2, s3, s4, s5⟩
    go_simp
    with_reducible rfl
   rotate_left
   ·simp only [Act.put, List.setIfInBounds_toArray, List.set_cons_zero, List.set_cons_succ, i64_w, i32_w]
    rfl
   refine take_ (i := 1) (N := some 64) (v := ?_) (a' := ?_) #[true, true, false, false, false] rfl rfl (by kernel_rfl) (fun _ _ _ h => h) (Or.inl ⟨by rfl, ?_⟩) hHeld ?_ ?_
   rotate_left
   ·rintro w' ⟨s0, s1, s2, s3, s4, s5⟩
    go_simp
    with_reducible rfl
   rotate_left
   ·simp only [Act.put, List.setIfInBounds_toArray, List.set_cons_zero, List.set_cons_succ, i64_w, i32_w]
    rfl
   refine one_ (i := 2) (N := some 65) #[true, true, true, false, false] rfl rfl (by kernel_rfl) (by decide) (fun K hK => ?_)
   refine goes_ Try.func14 (by kernel_rfl) rfl #[.agg #[.int .i64 a0_0, .int .i64 a0_1, .slice A0_2 l0_2.length c0_2]] (by rfl) rfl rfl zz3 ?_
   with_reducible refine (laws_toBoard.calls kj27 a0_0 a0_1 _ _ l0_2 t615 t616 t617 _ ?side1 ?side2 A59.out).mono ?_
   (case side1 => exact zz14)
   (case side2 => exact HC0_2.out)
   rintro e w77 ⟨v618, rfl, ho0, hb⟩
   refine ⟨_, rfl, ?_⟩
   have n0_ := Aside0.mk (Kd.R_elder' zz8 (Kd.R_base ho0) hb)
   have n1_ := Aside0.mk (Kd.R_elder' zz7 (Kd.R_base ho0) hb)
   have n2_ := Aside0.mk (Kd.R_elder' zz6 (Kd.R_base ho0) hb)
   have n3_ := Aside0.mk (Kd.R_lower (Kd.R_new' (Kd.R_new' (Kd.R_new' ho0 (Kd.R_lt zz8)) (Kd.R_lt zz7)) (Kd.R_lt zz6)) (below_size zz1))
   have n4_ := Aside0.mk (blk_below (g := gb581) (o := .cells #[.int .i64 a0_0, .int .i64 a0_1, .slice A0_2 l0_2.length c0_2] 24 (0, 0)) zz2 hb)
   have n5_ := Aside0.mk (blk_below (g := gb582) (o := .cells #[.int .i64 a1_0, .int .i64 a1_1] 26 (0, 0)) zz5 hb)
   have n6_ := Aside0.mk (blk_below (g := gb604) (o := .cells #[.int .i64 t599, .int .i64 t600, .slice Ao49 t601.length co49] 30 (0, 0)) zz9 hb)
   have n7_ := Aside0.mk (below_step zz1 hb)
   clear HO_13
   clear HO_14
   clear HO_605002
   clear BK581
   clear BK582
   clear BK604
   clear HB
   have HO_13 := n0_
   have HO_14 := n1_
   have HO_605002 := n2_
   have HO619 := n3_
   have BK581 := n4_
   have BK582 := n5_
   have BK604 := n6_
   have HB := n7_
   clear n0_ n1_ n2_ n3_ n4_ n5_ n6_ n7_
   (try clear hb)
   (try clear hb2)
   (try clear hk)
   (try clear hi)
   (try clear ho0)
   (try clear hna_)
   (try clear hnb_)
   obtain ⟨Ao78, co78, eo78⟩ := Kd.R_slice HO619.out
   (first | subst eo78 | (injection eo78 with f1_ f2_ f3_; have f4_ := f1_.symm; have f5_ := f3_.symm; clear f1_ f2_ f3_; subst f4_; subst f5_))
   refine hK.out _ _ ⟨(blk_cell BK604.out 0).trans rfl, (blk_cell BK604.out 1).trans rfl, (blk_cell BK604.out 2).trans rfl, (blk_cell BK581.out 0).trans rfl, (blk_cell BK581.out 1).trans rfl, (blk_cell BK581.out 2).trans rfl⟩ (fun hHeld => ?_)
   clear hK K
   refine norm_ (a' := ?_) ?_ ?_
   rotate_left
   ·show Act.put _ (some 65) _ = _
    simp only [Act.put, List.setIfInBounds_toArray, List.set_cons_zero, List.set_cons_succ, i64_w, i32_w]
    rfl
   refine one_ (i := 3) (N := some 66) #[true, true, true, true, false] rfl rfl (by kernel_rfl) (by decide) (fun K hK => ?_)
   refine goes_ Try.func19 (by kernel_rfl) rfl #[.agg #[.int .i64 t599, .int .i64 t600, .slice Ao49 t601.length co49], .agg #[.int .i64 t615, .int .i64 t616, .slice Ao78 t617.length co78]] (by rfl) rfl rfl zz3 ?_
   with_reducible refine (laws_eqBoard.calls kj27 t599 t600 _ _ t601 t615 t616 _ _ t617 true _ ?side1 ?side2 ?side3 ?side4 A60.out).mono ?_
   (case side1 => exact zz18)
   (case side2 => exact (Kd.R_reads' HO_605002.out).2.1)
   (case side3 => exact zz19)
   (case side4 => exact (Kd.R_reads' HO619.out).2.1)
   rintro e w79 ⟨rfl, hb⟩
   refine ⟨_, rfl, ?_⟩
   have n0_ := Aside0.mk (Kd.R_below zz8 hb)
   have n1_ := Aside0.mk (Kd.R_below zz7 hb)
   have n2_ := Aside0.mk (Kd.R_below zz6 hb)
   have n3_ := Aside0.mk (Kd.R_below zz12 hb)
   have n4_ := Aside0.mk (blk_below (g := gb581) (o := .cells #[.int .i64 a0_0, .int .i64 a0_1, .slice A0_2 l0_2.length c0_2] 24 (0, 0)) zz2 hb)
   have n5_ := Aside0.mk (blk_below (g := gb582) (o := .cells #[.int .i64 a1_0, .int .i64 a1_1] 26 (0, 0)) zz5 hb)
   have n6_ := Aside0.mk (blk_below (g := gb604) (o := .cells #[.int .i64 t599, .int .i64 t600, .slice Ao49 t601.length co49] 30 (0, 0)) zz9 hb)
   have n7_ := Aside0.mk (below_step zz1 hb)
   clear HO_13
   clear HO_14
   clear HO_605002
   clear HO619
   clear BK581
   clear BK582
   clear BK604
   clear HB
   have HO_13 := n0_
   have HO_14 := n1_
   have HO_605002 := n2_
   have HO619 := n3_
   have BK581 := n4_
   have BK582 := n5_
   have BK604 := n6_
   have HB := n7_
   clear n0_ n1_ n2_ n3_ n4_ n5_ n6_ n7_
   (try clear hb)
   (try clear hb2)
   (try clear hk)
   (try clear hi)
   (try clear hna_)
   (try clear hnb_)
   refine hK.out _ _ ⟨(blk_cell BK604.out 0).trans rfl, (blk_cell BK604.out 1).trans rfl, (blk_cell BK604.out 2).trans rfl, (blk_cell BK581.out 0).trans rfl, (blk_cell BK581.out 1).trans rfl, (blk_cell BK581.out 2).trans rfl⟩ (fun hHeld => ?_)
   clear hK K
   refine norm_ (a' := ?_) ?_ ?_
   rotate_left
   ·show Act.put _ (some 66) _ = _
    simp only [Act.put, List.setIfInBounds_toArray, List.set_cons_zero, List.set_cons_succ, i64_w, i32_w]
    rfl
   refine pure_ (i := 4) (N := some 67) (v := ?_) (a' := ?_) #[true, true, true, true, true] rfl rfl (by kernel_rfl) (fun _ _ _ h => h) (Or.inl ⟨by rfl, ?_⟩) ?_ ?_
   rotate_left
   ·intro w'
    go_simp
    with_reducible rfl
   rotate_left
   ·simp only [Act.put, List.setIfInBounds_toArray, List.set_cons_zero, List.set_cons_succ, i64_w, i32_w]
    rfl
   refine done_ (by kernel_rfl) ?_
   try go_wp2_with (first | ((with_reducible refine gate_callee (f := 16) rfl ?_); refine goesL_ (some 70) rfl rfl Try.func16 (by kernel_rfl) rfl #[.slice A2 l2.length c2] rfl zz3 ?_; (with_reducible refine (laws_toIntS.calls kj27 _ _ l2 t621 _ ?side1 ?side2 A62.out).mono ?_); (case side1 => exact zz20); (case side2 => exact HC2.out); rintro e w80 ⟨v622, rfl, ho0, hb⟩; refine ⟨_, rfl, ?_⟩; have n0_ := Aside0.mk (Kd.R_elder' zz8 (Kd.R_base ho0) hb); have n1_ := Aside0.mk (Kd.R_elder' zz7 (Kd.R_base ho0) hb); have n2_ := Aside0.mk (Kd.R_elder' zz6 (Kd.R_base ho0) hb); have n3_ := Aside0.mk (Kd.R_elder' zz12 (Kd.R_base ho0) hb); have n4_ := Aside0.mk (Kd.R_lower (Kd.R_new' (Kd.R_new' (Kd.R_new' (Kd.R_new' ho0 (Kd.R_lt zz8)) (Kd.R_lt zz7)) (Kd.R_lt zz6)) (Kd.R_lt zz12)) (below_size zz1)); have n5_ := Aside0.mk (blk_below (g := gb581) (o := .cells #[.int .i64 a0_0, .int .i64 a0_1, .slice A0_2 l0_2.length c0_2] 24 (0, 0)) zz2 hb); have n6_ := Aside0.mk (blk_below (g := gb582) (o := .cells #[.int .i64 a1_0, .int .i64 a1_1] 26 (0, 0)) zz5 hb); have n7_ := Aside0.mk (blk_below (g := gb604) (o := .cells #[.int .i64 t599, .int .i64 t600, .slice Ao49 t601.length co49] 30 (0, 0)) zz9 hb); have n8_ := Aside0.mk (below_step zz1 hb); clear HO_13; clear HO_14; clear HO_605002; clear HO619; clear BK581; clear BK582; clear BK604; clear HB; have HO_13 := n0_; have HO_14 := n1_; have HO_605002 := n2_; have HO619 := n3_; have HO623 := n4_; have BK581 := n5_; have BK582 := n6_; have BK604 := n7_; have HB := n8_; clear n0_ n1_ n2_ n3_ n4_ n5_ n6_ n7_ n8_; (try clear hb); (try clear hb2); (try clear hk); (try clear hi); (try clear ho0); (try clear hna_); (try clear hnb_); obtain ⟨Ao81, co81, eo81⟩ := Kd.R_slice HO623.out; subst eo81) | ((with_reducible refine gate_callee (f := 18) rfl ?_); refine goesL_ (some 71) rfl rfl Try.func18 (by kernel_rfl) rfl #[.slice Ao54 t605.length co54, .slice Ao81 t621.length co81] rfl zz3 ?_; (with_reducible refine (laws_eqIntS.calls kj27 _ _ t605 _ _ t621 true _ ?side1 ?side2 ?side3 ?side4 A63.out).mono ?_); (case side1 => exact zz26); (case side2 => exact (Kd.R_reads' HO_13.out).2.1); (case side3 => exact zz27); (case side4 => exact (Kd.R_reads' HO623.out).2.1); rintro e w' ⟨rfl, ⟨nd, rfl⟩⟩; refine ⟨_, rfl, ?_⟩) | ((with_reducible refine gate_callee (f := 16) rfl ?_); refine goesL_ (some 75) rfl rfl Try.func16 (by kernel_rfl) rfl #[.slice A3 l3.length c3] rfl zz3 ?_; (with_reducible refine (laws_toIntS.calls kj27 _ _ l3 t625 _ ?side1 ?side2 A65.out).mono ?_); (case side1 => exact zz40); (case side2 => exact HC3.out); rintro e w82 ⟨v626, rfl, ho0, hb⟩; refine ⟨_, rfl, ?_⟩; have n0_ := Aside0.mk (Kd.R_elder' zz8 (Kd.R_base ho0) hb); have n1_ := Aside0.mk (Kd.R_elder' zz7 (Kd.R_base ho0) hb); have n2_ := Aside0.mk (Kd.R_elder' zz6 (Kd.R_base ho0) hb); have n3_ := Aside0.mk (Kd.R_elder' zz12 (Kd.R_base ho0) hb); have n4_ := Aside0.mk (Kd.R_elder' zz28 (Kd.R_base ho0) hb); have n5_ := Aside0.mk (Kd.R_lower (Kd.R_new' (Kd.R_new' (Kd.R_new' (Kd.R_new' (Kd.R_new' ho0 (Kd.R_lt zz8)) (Kd.R_lt zz7)) (Kd.R_lt zz6)) (Kd.R_lt zz12)) (Kd.R_lt zz28)) (below_size zz1)); have n6_ := Aside0.mk (blk_below (g := gb581) (o := .cells #[.int .i64 a0_0, .int .i64 a0_1, .slice A0_2 l0_2.length c0_2] 24 (0, 0)) zz2 hb); have n7_ := Aside0.mk (blk_below (g := gb582) (o := .cells #[.int .i64 a1_0, .int .i64 a1_1] 26 (0, 0)) zz5 hb); have n8_ := Aside0.mk (blk_below (g := gb604) (o := .cells #[.int .i64 t599, .int .i64 t600, .slice Ao49 t601.length co49] 30 (0, 0)) zz9 hb); have n9_ := Aside0.mk (below_step zz1 hb); clear HO_13; clear HO_14; clear HO_605002; clear HO619; clear HO623; clear BK581; clear BK582; clear BK604; clear HB; have HO_13 := n0_; have HO_14 := n1_; have HO_605002 := n2_; have HO619 := n3_; have HO623 := n4_; have HO627 := n5_; have BK581 := n6_; have BK582 := n7_; have BK604 := n8_; have HB := n9_; clear n0_ n1_ n2_ n3_ n4_ n5_ n6_ n7_ n8_ n9_; (try clear hb); (try clear hb2); (try clear hk); (try clear hi); (try clear ho0); (try clear hna_); (try clear hnb_); obtain ⟨Ao83, co83, eo83⟩ := Kd.R_slice HO627.out; subst eo83) | ((with_reducible refine gate_callee (f := 18) rfl ?_); refine goesL_ (some 76) rfl rfl Try.func18 (by kernel_rfl) rfl #[.slice Ao55 t608.length co55, .slice Ao83 t625.length co83] rfl zz3 ?_; (with_reducible refine (laws_eqIntS.calls kj27 _ _ t608 _ _ t625 false _ ?side1 ?side2 ?side3 ?side4 A66.out).mono ?_); (case side1 => exact zz30); (case side2 => exact (Kd.R_reads' HO_14.out).2.1); (case side3 => exact zz31); (case side4 => exact (Kd.R_reads' HO627.out).2.1); rintro e w' ⟨rfl, ⟨nd, rfl⟩⟩; refine ⟨_, rfl, ?_⟩))
   go_ret
   exact ⟨zz17, zz1⟩

end Go.Proofs.Ytbecdckdbeoomaa.Q

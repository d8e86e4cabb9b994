/- Written by a program of this session: functions of the translation as plain Lean functions, each with a proof that the call does what the plain function says; the conditions stand in each theorem. -/
import Derived.Test.YtbecdckdbeoomaaQ0
import Derived.Test.YtbecdckdbeoomaaQ1
import Derived.Test.YtbecdckdbeoomaaQ2
import Derived.Test.YtbecdckdbeoomaaQ5
import Derived.Test.YtbecdckdbeoomaaQ28
import Derived.Test.YtbecdckdbeoomaaQ30
namespace Go.Proofs.Ytbecdckdbeoomaa.Q
open Go.RowKit Go.Proofs.YtbecdckdbeoomaaW.PrintWords Go.Proofs.YtbecdckdbeoomaaW.PrintLast Go.Proofs.YtbecdckdbeoomaaW.PrintMore
attribute [local go_sem] max2_int min2_int max_two min_two max_three min_three max_four min_four   -- for this text's walks alone
set_option linter.unusedVariables false
set_option linter.unusedSimpArgs false

theorem zaf1 {p : Prop} (h : p := by repeat (first | (with_reducible first | exact HB.out | apply below_alloc | apply pw_below_drewN | apply below_drew1 | refine below_set ?_ GE762.out | refine below_set ?_ GE763.out | refine below_set ?_ GE782.out) | exact HB.out)) : p := h
theorem zaf2 {p : Prop} (h : p := by first | exact BK762.out | ((with_reducible repeat (first | refine blk_drewN ?_ _ | refine blk_drew ?_ | refine blk_alloc ?_ _)); exact BK762.out)) : p := h
theorem zaf3 {p : Prop} (h : p := by repeat (first | (with_reducible first | exact HB.out | apply below_alloc | apply pw_below_drewN | apply below_drew1 | refine below_set ?_ GE762.out | refine below_set ?_ GE763.out) | exact HB.out)) : p := h
theorem zaf4 {p : Prop} (h : p := by (try simp only [List.map_toArray, List.map_cons, List.map_nil]); first | done | rfl | (simp only [List.length_drop, List.length_take]; rfl)) : p := h
theorem zaf5 {p : Prop} (h : p := by first | exact BK763.out | ((with_reducible repeat (first | refine blk_drewN ?_ _ | refine blk_drew ?_ | refine blk_alloc ?_ _)); exact BK763.out)) : p := h
theorem zaf6 {p : Prop} (h : p := by repeat (first | (with_reducible first | exact HB.out | apply below_alloc | apply pw_below_drewN | apply below_drew1 | refine below_set ?_ GE762.out) | exact HB.out)) : p := h
theorem zaf7 {p : Prop} (h : p := by first | exact HO_783002.out | ((with_reducible repeat (first | apply Kd.R_alloc | apply Kd.R_drewN | apply Kd.R_drew)); exact HO_783002.out)) : p := h
theorem zaf8 {p : Prop} (h : p := by first | exact BK782.out | ((with_reducible repeat (first | refine blk_drewN ?_ _ | refine blk_drew ?_ | refine blk_alloc ?_ _)); exact BK782.out)) : p := h
theorem zaf9 {p : Prop} (h : p := by first | exact HO_11.out | ((with_reducible repeat (first | apply Kd.R_alloc | apply Kd.R_drewN | apply Kd.R_drew)); exact HO_11.out)) : p := h
theorem zaf10 {p : Prop} (h : p := by repeat (first | (with_reducible first | exact HB.out | apply below_alloc | apply pw_below_drewN | apply below_drew1) | exact HB.out)) : p := h
theorem zaf11 {p : Prop} (h : p := by repeat (first | exact (Kd.C_below HR0_2.out HB.out) | (with_reducible refine Kd.C_alloc ?_ _) | (with_reducible refine Kd.C_drewN ?_ _) | (with_reducible refine Kd.C_drew ?_))) : p := h
theorem zaf12 {p : Prop} (h : p := by first | exact HO769.out | ((with_reducible repeat (first | apply Kd.R_alloc | apply Kd.R_drewN | apply Kd.R_drew)); exact HO769.out)) : p := h
theorem zaf13 {p : Prop} (h : p := by first | exact HO794.out | ((with_reducible repeat (first | apply Kd.R_alloc | apply Kd.R_drewN | apply Kd.R_drew)); exact HO794.out)) : p := h
theorem zaf14 {p : Prop} (h : p := by first | exact HO774.out | ((with_reducible repeat (first | apply Kd.R_alloc | apply Kd.R_drewN | apply Kd.R_drew)); exact HO774.out)) : p := h
theorem zaf15 {p : Prop} (h : p := by first | rfl | (simp [errW_none, errW_some] <;> rfl) | (simp [*, errW_none, errW_some] <;> rfl)) : p := h
theorem zaf16 {p : Prop} (h : p := by (with_reducible repeat (first | apply Kd.R_alloc | apply Kd.R_drewN | apply Kd.R_drew)); exact (Kd.R_mono (Kd.R_far (p := ⟨gb782, 2, none⟩) (Kd.R_far (p := ⟨gb782, 1, none⟩) (Kd.R_far (p := ⟨gb782, 0, none⟩) (Kd.R_types HO781.out BK782.out (by decide)) (fun _ hk => hk.2) (.int .i64 t777)) (fun _ hk => hk.2) (.int .i64 t778)) (fun _ hk => hk.2) (.slice Ao41 t779.length co41)) (fun _ h_ => h_.1))) : p := h
theorem zaf17 {p : Prop} (h : p := by (with_reducible repeat (first | apply Kd.R_alloc | apply Kd.R_drewN | apply Kd.R_drew)); exact (Kd.R_mono (Kd.R_far (p := ⟨gb782, 2, none⟩) (Kd.R_far (p := ⟨gb782, 1, none⟩) (Kd.R_far (p := ⟨gb782, 0, none⟩) (Kd.R_types HO774.out BK782.out (by decide)) (fun _ hk => hk.2) (.int .i64 t777)) (fun _ hk => hk.2) (.int .i64 t778)) (fun _ hk => hk.2) (.slice Ao41 t779.length co41)) (fun _ h_ => h_.1))) : p := h
theorem zaf18 {p : Prop} (h : p := by (with_reducible repeat (first | apply Kd.R_alloc | apply Kd.R_drewN | apply Kd.R_drew)); exact (Kd.R_mono (Kd.R_far (p := ⟨gb782, 2, none⟩) (Kd.R_far (p := ⟨gb782, 1, none⟩) (Kd.R_far (p := ⟨gb782, 0, none⟩) (Kd.R_types HO769.out BK782.out (by decide)) (fun _ hk => hk.2) (.int .i64 t777)) (fun _ hk => hk.2) (.int .i64 t778)) (fun _ hk => hk.2) (.slice Ao41 t779.length co41)) (fun _ h_ => h_.1))) : p := h
theorem zaf19 {p : Prop} (h : p := by repeat (first | exact (Kd.R_reads' HO_783002.out).2.2 | (with_reducible refine Kd.C_alloc ?_ _) | (with_reducible refine Kd.C_drewN ?_ _) | (with_reducible refine Kd.C_drew ?_))) : p := h
theorem zaf20 {p : Prop} (h : p := by repeat (first | exact (Kd.R_reads' HO794.out).2.2 | (with_reducible refine Kd.C_alloc ?_ _) | (with_reducible refine Kd.C_drewN ?_ _) | (with_reducible refine Kd.C_drew ?_))) : p := h
theorem zaf21 {p : Prop} (h : p := by repeat (first | exact (Kd.C_below HR2.out HB.out) | (with_reducible refine Kd.C_alloc ?_ _) | (with_reducible refine Kd.C_drewN ?_ _) | (with_reducible refine Kd.C_drew ?_))) : p := h
theorem zaf22 {p : Prop} (h : p := by first | exact HO781.out | ((with_reducible repeat (first | apply Kd.R_alloc | apply Kd.R_drewN | apply Kd.R_drew)); exact HO781.out)) : p := h
theorem zaf23 {p : Prop} (h : p := by repeat (first | exact (Kd.R_reads' HO_11.out).2.2 | (with_reducible refine Kd.C_alloc ?_ _) | (with_reducible refine Kd.C_drewN ?_ _) | (with_reducible refine Kd.C_drew ?_))) : p := h
theorem zaf24 {p : Prop} (h : p := by repeat (first | exact (Kd.R_reads' HO798.out).2.2 | (with_reducible refine Kd.C_alloc ?_ _) | (with_reducible refine Kd.C_drewN ?_ _) | (with_reducible refine Kd.C_drew ?_))) : p := h
theorem zaf25 {p : Prop} (h : p := by (with_reducible repeat (first | apply Kd.R_alloc | apply Kd.R_drewN | apply Kd.R_drew)); exact Kd.R_mono HO785.out (fun _ hk => hk.2)) : p := h
theorem zaf26 {p : Prop} (h : p := by (with_reducible repeat (first | apply Kd.R_alloc | apply Kd.R_drewN | apply Kd.R_drew)); exact Kd.R_mono HO781.out (fun _ hk => hk.2)) : p := h
theorem zaf27 {p : Prop} (h : p := by rw [hg]; exact Nat.ne_of_lt (blk_lt (g := gb762) (o := .cells #[.int .i64 a0_0, .int .i64 a0_1, .slice A0_2 l0_2.length c0_2] 24 (0, 0)) zaf2)) : p := h
theorem zaf28 {p : Prop} (h : p := by rw [hg]; exact Nat.ne_of_gt (blk_lt (g := gb762) (o := .cells #[.int .i64 a0_0, .int .i64 a0_1, .slice A0_2 l0_2.length c0_2] 24 (0, 0)) zaf2)) : p := h
theorem zaf29 {p : Prop} (h : p := by rw [hg]; exact (below_size zaf10)) : p := h
theorem zaf30 {p : Prop} (h : p := by rw [hg]; exact (below_size zaf6)) : p := h
/-! ### laws_FnExactIsFarPainting: function 6 -/
def laws_FnExactIsFarPainting.j0 : Nat → List Int → List Int → Bool → Int → Int → List Int → Int → Int → List Int → Option (Bool)
 | 0, _, _, _, _, _, _, _, _, _ => none
 | k + 1, x2, x11, x51, x763000, x763001, x763002, x783000, x783001, x783002 => if x51 = true then (some false) else ((laws_toBoard.f k x763000 x763001 x763002).bind fun bt790 => ((laws_eqBoard.f k x783000 x783001 x783002 bt790.1 bt790.2.1 bt790.2.2).bind fun t795 => (if t795 = true then ((laws_toIntS.f k x2).bind fun t796 => ((laws_eqIntS.f k x11 t796).bind fun t799 => (if t799 = true then (some true) else (some false)))) else (some false))))
def laws_FnExactIsFarPainting.f (k : Nat) (a0_0 : Int) (a0_1 : Int) (l0_2 : List Int) (a1_0 : Int) (a1_1 : Int) (l2 : List Int) : Option (Bool) := if (l2.length : Int) > 1048576 then (some true) else ((laws_szBoard.f a0_0 a0_1 l0_2 1048576).bind fun t764 => (if t764 < 0 then (some true) else ((laws_toBoard.f k a0_0 a0_1 l0_2).bind fun bt765 => ((laws_toLeaper.f a1_0 a1_1).bind fun bt770 => ((laws_toIntS.f k l2).bind fun t772 => ((spec_IsFarPainting.f k bt765.1 bt765.2.1 bt765.2.2 bt770.1 bt770.2 t772).bind fun bt775 => ((laws_toBoard.f k a0_0 a0_1 l0_2).bind fun bt777 => ((laws_toIntS.f k l2).bind fun t783 => ((laws_toLeaper.f a1_0 a1_1).bind fun bt786 => ((impl_IsFarPainting.f k bt777.1 bt777.2.1 bt777.2.2 bt786.1 bt786.2 t783).bind fun bt788 => (if (bt788.1 != bt775.1) = true then (laws_FnExactIsFarPainting.j0 k l2 t783 true a0_0 a0_1 l0_2 bt777.1 bt777.2.1 bt777.2.2) else (laws_FnExactIsFarPainting.j0 k l2 t783 (bt788.2 != bt775.2) a0_0 a0_1 l0_2 bt777.1 bt777.2.1 bt777.2.2))))))))))))
def laws_FnExactIsFarPainting.T7 : Bool × List (List Nat × List Nat) := (true, [([], []), ([0], [0]), ([], []), ([2, 1], [2]), ([], []), ([4, 3], [4]), ([1, 3, 5, 5], [1, 3, 5]), ([6], [6]), ([7], [7]), ([7], [7]), ([8, 6, 0, 1, 2, 3, 4, 5, 6, 7, 8], [8]), ([9, 10, 0, 1, 2, 3, 4, 5, 6, 7, 8, 9, 10], [9])])
def laws_FnExactIsFarPainting.B7 : List Nat := [0, 1, 0, 7, 0, 31, 63, 127, 255, 255, 511, 2047]
theorem laws_FnExactIsFarPainting.tab7 : rtab .any (opsOf Try.f6 7) = laws_FnExactIsFarPainting.T7 := by kernel_rfl
theorem laws_FnExactIsFarPainting.bits7 : waitsOk laws_FnExactIsFarPainting.T7.2 laws_FnExactIsFarPainting.B7 = true := by kernel_rfl
def laws_FnExactIsFarPainting.T10 : Bool × List (List Nat × List Nat) := (true, [([], []), ([], []), ([1], [1]), ([], []), ([0, 2, 3, 2], [0, 2, 3]), ([4], [4]), ([5], [5]), ([5], [5]), ([6, 4, 0, 1, 2, 3, 4, 5, 6], [6]), ([7, 8, 0, 1, 2, 3, 4, 5, 6, 7, 8], [7])])
def laws_FnExactIsFarPainting.B10 : List Nat := [0, 0, 2, 0, 15, 31, 63, 63, 127, 511]
theorem laws_FnExactIsFarPainting.tab10 : rtab .any (opsOf Try.f6 10) = laws_FnExactIsFarPainting.T10 := by kernel_rfl
theorem laws_FnExactIsFarPainting.bits10 : waitsOk laws_FnExactIsFarPainting.T10.2 laws_FnExactIsFarPainting.B10 = true := by kernel_rfl
set_option maxHeartbeats 8000000 in
set_option maxRecDepth 100000 in
theorem laws_FnExactIsFarPainting.calls (k : Nat) (a0_0 : Int) (a0_1 : Int) (A0_2 : Option Addr) (c0_2 : Nat) (l0_2 : List Int) (a1_0 : Int) (a1_1 : Int) (A2 : Option Addr) (c2 : Nat) (l2 : List Int) (r : Bool) (w : World) (hr0_2 : Kd.C (Kd.int .i64) w A0_2 l0_2.length l0_2) (hc0_2 : l0_2.length ≤ c0_2) (hr2 : Kd.C (Kd.int .i64) w A2 l2.length l2) (hc2 : l2.length ≤ c2) (h : laws_FnExactIsFarPainting.f k a0_0 a0_1 l0_2 a1_0 a1_1 l2 = some r) :
  Calls Try.prog 6 #[.agg #[.int .i64 a0_0, .int .i64 a0_1, .slice A0_2 l0_2.length c0_2], .agg #[.int .i64 a1_0, .int .i64 a1_1], .slice A2 l2.length c2] w fun e w' => e = .returned (.bool r) ∧ Below w.heap.size w w' := by
 have hu24 := Try.underlying24
 have hu26 := Try.underlying26
 have hu30 := Try.underlying30
 have HR0_2 := Aside0.mk hr0_2
 have HC0_2 := Aside0.mk hc0_2
 clear hr0_2 hc0_2
 have HR2 := Aside0.mk hr2
 have HC2 := Aside0.mk hc2
 clear hr2 hc2
 have HB := Aside0.mk (Below.refl w.heap.size w)
 have H : (if (l2.length : Int) > 1048576 then (some true) else ((laws_szBoard.f a0_0 a0_1 l0_2 1048576).bind fun t764 => (if t764 < 0 then (some true) else ((laws_toBoard.f k a0_0 a0_1 l0_2).bind fun bt765 => ((laws_toLeaper.f a1_0 a1_1).bind fun bt770 => ((laws_toIntS.f k l2).bind fun t772 => ((spec_IsFarPainting.f k bt765.1 bt765.2.1 bt765.2.2 bt770.1 bt770.2 t772).bind fun bt775 => ((laws_toBoard.f k a0_0 a0_1 l0_2).bind fun bt777 => ((laws_toIntS.f k l2).bind fun t783 => ((laws_toLeaper.f a1_0 a1_1).bind fun bt786 => ((impl_IsFarPainting.f k bt777.1 bt777.2.1 bt777.2.2 bt786.1 bt786.2 t783).bind fun bt788 => (if (bt788.1 != bt775.1) = true then (laws_FnExactIsFarPainting.j0 k l2 t783 true a0_0 a0_1 l0_2 bt777.1 bt777.2.1 bt777.2.2) else (laws_FnExactIsFarPainting.j0 k l2 t783 (bt788.2 != bt775.2) a0_0 a0_1 l0_2 bt777.1 bt777.2.1 bt777.2.2))))))))))))) = some r := h
 clear h
 by_cases c4 : (l2.length : Int) > 1048576
 ·rw [if_pos c4] at H
  have c4b0 : decide (1048576 < (l2.length : Int)) = true := decide_eq_true c4
  have c4b1 : decide (1048576 < l2.length) = true := decide_eq_true (by omega)
  clear c4
  obtain rfl := Option.some.inj H
  go_enter Try.func6, Try.ntmps6
  go_wp2_with (first | ((with_reducible refine gate_dst (N := 3) rfl ?_); refine box_event ?hg (N := 3) ?hd (cs := #[.int .i64 a0_0, .int .i64 a0_1, .slice A0_2 l0_2.length c0_2]) (t := 24) ?hr ?_; (case hd => rfl); (case hg => rfl); (case hr => first | (go_simp; done) | (go_simp; rfl)); intro gb762 hg w5 hbox hb; have n0_ := Aside0.mk (below_step zaf10 hb); have n1_ := Aside0.mk (hbox); have n2_ := Aside0.mk ((zaf29 : w.heap.size ≤ gb762)); have n3_ := Aside0.mk ((zaf29 : w.heap.size ≤ gb762)); clear HB; have HB := n0_; have BK762 := n1_; have GW762 := n2_; have GE762 := n3_; clear n0_ n1_ n2_ n3_; clear hb hbox hg) | ((with_reducible refine gate_dst (N := 4) rfl ?_); refine box_event ?hg (N := 4) ?hd (cs := #[.int .i64 a1_0, .int .i64 a1_1]) (t := 26) ?hr ?_; (case hd => rfl); (case hg => rfl); (case hr => first | (go_simp; done) | (go_simp; rfl)); intro gb763 hg w6 hbox hb; have n0_ := Aside0.mk (blk_below (g := gb762) (o := .cells #[.int .i64 a0_0, .int .i64 a0_1, .slice A0_2 l0_2.length c0_2] 24 (0, 0)) zaf2 hb); have n1_ := Aside0.mk (below_step zaf6 hb); have n2_ := Aside0.mk (hbox); have n3_ := Aside0.mk ((zaf30 : w.heap.size ≤ gb763)); have n4_ := Aside0.mk ((zaf30 : w.heap.size ≤ gb763)); have n5_ := Aside0.mk ((zaf27 : gb762 ≠ gb763)); have n6_ := Aside0.mk ((zaf28 : gb763 ≠ gb762)); clear BK762; clear HB; have BK762 := n0_; have HB := n1_; have BK763 := n2_; have GW763 := n3_; have GE763 := n4_; have NB762_763 := n5_; have NB763_762 := n6_; clear n0_ n1_ n2_ n3_ n4_ n5_ n6_; clear hb hbox hg))
  go_ret
  exact ⟨zaf15, zaf3⟩
 rw [if_neg c4] at H
 have c4b0 : decide (1048576 < (l2.length : Int)) = false := decide_eq_false c4
 have c4b1 : decide (1048576 < l2.length) = false := decide_eq_false (by omega)
 clear c4
 replace H := Option.bind_eq_some_iff.mp H
 obtain ⟨t764, A70, H⟩ := H
 replace H : (if t764 < 0 then (some true) else ((laws_toBoard.f k a0_0 a0_1 l0_2).bind fun bt765 => ((laws_toLeaper.f a1_0 a1_1).bind fun bt770 => ((laws_toIntS.f k l2).bind fun t772 => ((spec_IsFarPainting.f k bt765.1 bt765.2.1 bt765.2.2 bt770.1 bt770.2 t772).bind fun bt775 => ((laws_toBoard.f k a0_0 a0_1 l0_2).bind fun bt777 => ((laws_toIntS.f k l2).bind fun t783 => ((laws_toLeaper.f a1_0 a1_1).bind fun bt786 => ((impl_IsFarPainting.f k bt777.1 bt777.2.1 bt777.2.2 bt786.1 bt786.2 t783).bind fun bt788 => (if (bt788.1 != bt775.1) = true then (laws_FnExactIsFarPainting.j0 k l2 t783 true a0_0 a0_1 l0_2 bt777.1 bt777.2.1 bt777.2.2) else (laws_FnExactIsFarPainting.j0 k l2 t783 (bt788.2 != bt775.2) a0_0 a0_1 l0_2 bt777.1 bt777.2.1 bt777.2.2))))))))))) = some r := H
 have A7 := Aside0.mk A70
 clear A70
 by_cases c8 : t764 < 0
 ·rw [if_pos c8] at H
  have c8b0 : decide (t764 < 0) = true := decide_eq_true c8
  clear c8
  obtain rfl := Option.some.inj H
  go_enter Try.func6, Try.ntmps6
  go_wp2_with (first | ((with_reducible refine gate_dst (N := 3) rfl ?_); refine box_event ?hg (N := 3) ?hd (cs := #[.int .i64 a0_0, .int .i64 a0_1, .slice A0_2 l0_2.length c0_2]) (t := 24) ?hr ?_; (case hd => rfl); (case hg => rfl); (case hr => first | (go_simp; done) | (go_simp; rfl)); intro gb762 hg w9 hbox hb; have n0_ := Aside0.mk (below_step zaf10 hb); have n1_ := Aside0.mk (hbox); have n2_ := Aside0.mk ((zaf29 : w.heap.size ≤ gb762)); have n3_ := Aside0.mk ((zaf29 : w.heap.size ≤ gb762)); clear HB; have HB := n0_; have BK762 := n1_; have GW762 := n2_; have GE762 := n3_; clear n0_ n1_ n2_ n3_; clear hb hbox hg) | ((with_reducible refine gate_dst (N := 4) rfl ?_); refine box_event ?hg (N := 4) ?hd (cs := #[.int .i64 a1_0, .int .i64 a1_1]) (t := 26) ?hr ?_; (case hd => rfl); (case hg => rfl); (case hr => first | (go_simp; done) | (go_simp; rfl)); intro gb763 hg w10 hbox hb; have n0_ := Aside0.mk (blk_below (g := gb762) (o := .cells #[.int .i64 a0_0, .int .i64 a0_1, .slice A0_2 l0_2.length c0_2] 24 (0, 0)) zaf2 hb); have n1_ := Aside0.mk (below_step zaf6 hb); have n2_ := Aside0.mk (hbox); have n3_ := Aside0.mk ((zaf30 : w.heap.size ≤ gb763)); have n4_ := Aside0.mk ((zaf30 : w.heap.size ≤ gb763)); have n5_ := Aside0.mk ((zaf27 : gb762 ≠ gb763)); have n6_ := Aside0.mk ((zaf28 : gb763 ≠ gb762)); clear BK762; clear HB; have BK762 := n0_; have HB := n1_; have BK763 := n2_; have GW763 := n3_; have GE763 := n4_; have NB762_763 := n5_; have NB763_762 := n6_; clear n0_ n1_ n2_ n3_ n4_ n5_ n6_; clear hb hbox hg; have hnb11 := NB762_763.out; have hnc11 := NB763_762.out; have hcz12_0 : w10.cell? ⟨gb762, 0, none⟩ = some (.int .i64 a0_0) := (blk_cell BK762.out 0).trans rfl; have hcz12_1 : w10.cell? ⟨gb762, 1, none⟩ = some (.int .i64 a0_1) := (blk_cell BK762.out 1).trans rfl; have hcz12_2 : w10.cell? ⟨gb762, 2, none⟩ = some (.slice A0_2 l0_2.length c0_2) := (blk_cell BK762.out 2).trans rfl; have hfz12_0 := blk_frozen BK762.out 0; have hfz12_1 := blk_frozen BK762.out 1; have hfz12_2 := blk_frozen BK762.out 2) | ((with_reducible refine gate_callee (f := 12) rfl ?_); refine goesL_ (some 19) rfl rfl Try.func12 (by kernel_rfl) rfl #[.agg #[.int .i64 a0_0, .int .i64 a0_1, .slice A0_2 l0_2.length c0_2], .int .i64 1048576] rfl zaf4 ?_; (with_reducible refine (laws_szBoard.calls a0_0 a0_1 _ _ l0_2 1048576 t764 _ ?side1 ?side2 A7.out).mono ?_); (case side1 => exact zaf11); (case side2 => exact HC0_2.out); rintro e w13 ⟨rfl, hb⟩; refine ⟨_, rfl, ?_⟩; have n0_ := Aside0.mk (blk_below (g := gb762) (o := .cells #[.int .i64 a0_0, .int .i64 a0_1, .slice A0_2 l0_2.length c0_2] 24 (0, 0)) zaf2 hb); have n1_ := Aside0.mk (blk_below (g := gb763) (o := .cells #[.int .i64 a1_0, .int .i64 a1_1] 26 (0, 0)) zaf5 hb); have n2_ := Aside0.mk (below_step zaf3 hb); clear BK762; clear BK763; clear HB; have BK762 := n0_; have BK763 := n1_; have HB := n2_; clear n0_ n1_ n2_; (try clear hb); (try clear hb2); (try clear hk); (try clear hi); (try clear hna_); (try clear hnb_)))
  go_ret
  exact ⟨zaf15, zaf3⟩
 rw [if_neg c8] at H
 have c8b0 : decide (t764 < 0) = false := decide_eq_false c8
 clear c8
 replace H := Option.bind_eq_some_iff.mp H
 obtain ⟨⟨t765, t766, t767⟩, A140, H⟩ := H
 replace H : ((laws_toLeaper.f a1_0 a1_1).bind fun bt770 => ((laws_toIntS.f k l2).bind fun t772 => ((spec_IsFarPainting.f k t765 t766 t767 bt770.1 bt770.2 t772).bind fun bt775 => ((laws_toBoard.f k a0_0 a0_1 l0_2).bind fun bt777 => ((laws_toIntS.f k l2).bind fun t783 => ((laws_toLeaper.f a1_0 a1_1).bind fun bt786 => ((impl_IsFarPainting.f k bt777.1 bt777.2.1 bt777.2.2 bt786.1 bt786.2 t783).bind fun bt788 => (if (bt788.1 != bt775.1) = true then (laws_FnExactIsFarPainting.j0 k l2 t783 true a0_0 a0_1 l0_2 bt777.1 bt777.2.1 bt777.2.2) else (laws_FnExactIsFarPainting.j0 k l2 t783 (bt788.2 != bt775.2) a0_0 a0_1 l0_2 bt777.1 bt777.2.1 bt777.2.2))))))))) = some r := H
 have A14 := Aside0.mk A140
 clear A140
 replace H := Option.bind_eq_some_iff.mp H
 obtain ⟨⟨t770, t771⟩, A150, H⟩ := H
 replace H : ((laws_toIntS.f k l2).bind fun t772 => ((spec_IsFarPainting.f k t765 t766 t767 t770 t771 t772).bind fun bt775 => ((laws_toBoard.f k a0_0 a0_1 l0_2).bind fun bt777 => ((laws_toIntS.f k l2).bind fun t783 => ((laws_toLeaper.f a1_0 a1_1).bind fun bt786 => ((impl_IsFarPainting.f k bt777.1 bt777.2.1 bt777.2.2 bt786.1 bt786.2 t783).bind fun bt788 => (if (bt788.1 != bt775.1) = true then (laws_FnExactIsFarPainting.j0 k l2 t783 true a0_0 a0_1 l0_2 bt777.1 bt777.2.1 bt777.2.2) else (laws_FnExactIsFarPainting.j0 k l2 t783 (bt788.2 != bt775.2) a0_0 a0_1 l0_2 bt777.1 bt777.2.1 bt777.2.2)))))))) = some r := H
 have A15 := Aside0.mk A150
 clear A150
 replace H := Option.bind_eq_some_iff.mp H
 obtain ⟨t772, A160, H⟩ := H
 replace H : ((spec_IsFarPainting.f k t765 t766 t767 t770 t771 t772).bind fun bt775 => ((laws_toBoard.f k a0_0 a0_1 l0_2).bind fun bt777 => ((laws_toIntS.f k l2).bind fun t783 => ((laws_toLeaper.f a1_0 a1_1).bind fun bt786 => ((impl_IsFarPainting.f k bt777.1 bt777.2.1 bt777.2.2 bt786.1 bt786.2 t783).bind fun bt788 => (if (bt788.1 != bt775.1) = true then (laws_FnExactIsFarPainting.j0 k l2 t783 true a0_0 a0_1 l0_2 bt777.1 bt777.2.1 bt777.2.2) else (laws_FnExactIsFarPainting.j0 k l2 t783 (bt788.2 != bt775.2) a0_0 a0_1 l0_2 bt777.1 bt777.2.1 bt777.2.2))))))) = some r := H
 have A16 := Aside0.mk A160
 clear A160
 replace H := Option.bind_eq_some_iff.mp H
 obtain ⟨⟨t775, t776⟩, A170, H⟩ := H
 replace H : ((laws_toBoard.f k a0_0 a0_1 l0_2).bind fun bt777 => ((laws_toIntS.f k l2).bind fun t783 => ((laws_toLeaper.f a1_0 a1_1).bind fun bt786 => ((impl_IsFarPainting.f k bt777.1 bt777.2.1 bt777.2.2 bt786.1 bt786.2 t783).bind fun bt788 => (if (bt788.1 != t775) = true then (laws_FnExactIsFarPainting.j0 k l2 t783 true a0_0 a0_1 l0_2 bt777.1 bt777.2.1 bt777.2.2) else (laws_FnExactIsFarPainting.j0 k l2 t783 (bt788.2 != t776) a0_0 a0_1 l0_2 bt777.1 bt777.2.1 bt777.2.2)))))) = some r := H
 have A17 := Aside0.mk A170
 clear A170
 replace H := Option.bind_eq_some_iff.mp H
 obtain ⟨⟨t777, t778, t779⟩, A180, H⟩ := H
 replace H : ((laws_toIntS.f k l2).bind fun t783 => ((laws_toLeaper.f a1_0 a1_1).bind fun bt786 => ((impl_IsFarPainting.f k t777 t778 t779 bt786.1 bt786.2 t783).bind fun bt788 => (if (bt788.1 != t775) = true then (laws_FnExactIsFarPainting.j0 k l2 t783 true a0_0 a0_1 l0_2 t777 t778 t779) else (laws_FnExactIsFarPainting.j0 k l2 t783 (bt788.2 != t776) a0_0 a0_1 l0_2 t777 t778 t779))))) = some r := H
 have A18 := Aside0.mk A180
 clear A180
 replace H := Option.bind_eq_some_iff.mp H
 obtain ⟨t783, A190, H⟩ := H
 replace H : ((laws_toLeaper.f a1_0 a1_1).bind fun bt786 => ((impl_IsFarPainting.f k t777 t778 t779 bt786.1 bt786.2 t783).bind fun bt788 => (if (bt788.1 != t775) = true then (laws_FnExactIsFarPainting.j0 k l2 t783 true a0_0 a0_1 l0_2 t777 t778 t779) else (laws_FnExactIsFarPainting.j0 k l2 t783 (bt788.2 != t776) a0_0 a0_1 l0_2 t777 t778 t779)))) = some r := H
 have A19 := Aside0.mk A190
 clear A190
 replace H := Option.bind_eq_some_iff.mp H
 obtain ⟨⟨t786, t787⟩, A200, H⟩ := H
 replace H : ((impl_IsFarPainting.f k t777 t778 t779 t786 t787 t783).bind fun bt788 => (if (bt788.1 != t775) = true then (laws_FnExactIsFarPainting.j0 k l2 t783 true a0_0 a0_1 l0_2 t777 t778 t779) else (laws_FnExactIsFarPainting.j0 k l2 t783 (bt788.2 != t776) a0_0 a0_1 l0_2 t777 t778 t779))) = some r := H
 have A20 := Aside0.mk A200
 clear A200
 replace H := Option.bind_eq_some_iff.mp H
 obtain ⟨⟨t788, t789⟩, A210, H⟩ := H
 replace H : (if (t788 != t775) = true then (laws_FnExactIsFarPainting.j0 k l2 t783 true a0_0 a0_1 l0_2 t777 t778 t779) else (laws_FnExactIsFarPainting.j0 k l2 t783 (t789 != t776) a0_0 a0_1 l0_2 t777 t778 t779)) = some r := H
 have A21 := Aside0.mk A210
 clear A210
 have HC22 := Aside0.mk H
 clear H
 go_enter Try.func6, Try.ntmps6
 try go_wp2_with (first | ((with_reducible refine gate_dst (N := 3) rfl ?_); refine box_event ?hg (N := 3) ?hd (cs := #[.int .i64 a0_0, .int .i64 a0_1, .slice A0_2 l0_2.length c0_2]) (t := 24) ?hr ?_; (case hd => rfl); (case hg => rfl); (case hr => first | (go_simp; done) | (go_simp; rfl)); intro gb762 hg w23 hbox hb; have n0_ := Aside0.mk (below_step zaf10 hb); have n1_ := Aside0.mk (hbox); have n2_ := Aside0.mk ((zaf29 : w.heap.size ≤ gb762)); have n3_ := Aside0.mk ((zaf29 : w.heap.size ≤ gb762)); clear HB; have HB := n0_; have BK762 := n1_; have GW762 := n2_; have GE762 := n3_; clear n0_ n1_ n2_ n3_; clear hb hbox hg) | ((with_reducible refine gate_dst (N := 4) rfl ?_); refine box_event ?hg (N := 4) ?hd (cs := #[.int .i64 a1_0, .int .i64 a1_1]) (t := 26) ?hr ?_; (case hd => rfl); (case hg => rfl); (case hr => first | (go_simp; done) | (go_simp; rfl)); intro gb763 hg w24 hbox hb; have n0_ := Aside0.mk (blk_below (g := gb762) (o := .cells #[.int .i64 a0_0, .int .i64 a0_1, .slice A0_2 l0_2.length c0_2] 24 (0, 0)) zaf2 hb); have n1_ := Aside0.mk (below_step zaf6 hb); have n2_ := Aside0.mk (hbox); have n3_ := Aside0.mk ((zaf30 : w.heap.size ≤ gb763)); have n4_ := Aside0.mk ((zaf30 : w.heap.size ≤ gb763)); have n5_ := Aside0.mk ((zaf27 : gb762 ≠ gb763)); have n6_ := Aside0.mk ((zaf28 : gb763 ≠ gb762)); clear BK762; clear HB; have BK762 := n0_; have HB := n1_; have BK763 := n2_; have GW763 := n3_; have GE763 := n4_; have NB762_763 := n5_; have NB763_762 := n6_; clear n0_ n1_ n2_ n3_ n4_ n5_ n6_; clear hb hbox hg; have hnb25 := NB762_763.out; have hnc25 := NB763_762.out; have hcz26_0 : w24.cell? ⟨gb762, 0, none⟩ = some (.int .i64 a0_0) := (blk_cell BK762.out 0).trans rfl; have hcz26_1 : w24.cell? ⟨gb762, 1, none⟩ = some (.int .i64 a0_1) := (blk_cell BK762.out 1).trans rfl; have hcz26_2 : w24.cell? ⟨gb762, 2, none⟩ = some (.slice A0_2 l0_2.length c0_2) := (blk_cell BK762.out 2).trans rfl; have hfz26_0 := blk_frozen BK762.out 0; have hfz26_1 := blk_frozen BK762.out 1; have hfz26_2 := blk_frozen BK762.out 2) | ((with_reducible refine gate_callee (f := 12) rfl ?_); refine goesL_ (some 19) rfl rfl Try.func12 (by kernel_rfl) rfl #[.agg #[.int .i64 a0_0, .int .i64 a0_1, .slice A0_2 l0_2.length c0_2], .int .i64 1048576] rfl zaf4 ?_; (with_reducible refine (laws_szBoard.calls a0_0 a0_1 _ _ l0_2 1048576 t764 _ ?side1 ?side2 A7.out).mono ?_); (case side1 => exact zaf11); (case side2 => exact HC0_2.out); rintro e w27 ⟨rfl, hb⟩; refine ⟨_, rfl, ?_⟩; have n0_ := Aside0.mk (blk_below (g := gb762) (o := .cells #[.int .i64 a0_0, .int .i64 a0_1, .slice A0_2 l0_2.length c0_2] 24 (0, 0)) zaf2 hb); have n1_ := Aside0.mk (blk_below (g := gb763) (o := .cells #[.int .i64 a1_0, .int .i64 a1_1] 26 (0, 0)) zaf5 hb); have n2_ := Aside0.mk (below_step zaf3 hb); clear BK762; clear BK763; clear HB; have BK762 := n0_; have BK763 := n1_; have HB := n2_; clear n0_ n1_ n2_; (try clear hb); (try clear hb2); (try clear hk); (try clear hi); (try clear hna_); (try clear hnb_)))
 have n0_ := Aside0.mk (blk_drew BK762.out)
 have n1_ := Aside0.mk (blk_drew BK763.out)
 have n2_ := Aside0.mk (below_drew1 HB.out)
 clear BK762
 clear BK763
 clear HB
 have BK762 := n0_
 have BK763 := n1_
 have HB := n2_
 clear n0_ n1_ n2_
 refine start_ (n := 12) (S := fun w' => w'.cell? ⟨gb762, 0, none⟩ = some (.int .i64 a0_0) ∧ w'.cell? ⟨gb762, 1, none⟩ = some (.int .i64 a0_1) ∧ w'.cell? ⟨gb762, 2, none⟩ = some (.slice A0_2 l0_2.length c0_2) ∧ w'.cell? ⟨gb763, 0, none⟩ = some (.int .i64 a1_0) ∧ w'.cell? ⟨gb763, 1, none⟩ = some (.int .i64 a1_1)) (ds := []) #[false, false, false, false, false, false, false, false, false, false, false, false] (by kernel_rfl) rfl rfl ⟨(blk_cell BK762.out 0).trans rfl, (blk_cell BK762.out 1).trans rfl, (blk_cell BK762.out 2).trans rfl, (blk_cell BK763.out 0).trans rfl, (blk_cell BK763.out 1).trans rfl⟩ (fun hHeld => ?_); refine with_tabW laws_FnExactIsFarPainting.tab7 laws_FnExactIsFarPainting.bits7 (fun HT_ HW_ => ?_)
 generalize w27.drew = w28 at BK762 BK763 HB hHeld ⊢
 refine pure_ (i := 4) (N := some 27) (v := ?_) (a' := ?_) #[false, false, false, false, true, false, false, false, false, false, false, false] rfl rfl (any_of HT_.out (by kernel_rfl)) (fun _ _ _ h => h) (Or.inl ⟨by rfl, ?_⟩) ?_ ?_
 rotate_left
 ·intro w'
  go_simp
  with_reducible rfl
 rotate_left
 ·simp only [Act.put, List.setIfInBounds_toArray, List.set_cons_zero, List.set_cons_succ, i64_w, i32_w]
  rfl
 refine take_ (i := 0) (N := some 23) (v := ?_) (a' := ?_) #[true, false, false, false, true, false, false, false, false, false, false, false] rfl rfl (take_ofW HT_.out HW_.out (by kernel_rfl)) (fun _ _ _ h => h) (Or.inl ⟨by rfl, ?_⟩) hHeld ?_ ?_
 rotate_left
 ·rintro w' ⟨s0, s1, s2, s3, s4⟩
  go_simp
  with_reducible rfl
 rotate_left
 ·simp only [Act.put, List.setIfInBounds_toArray, List.set_cons_zero, List.set_cons_succ, i64_w, i32_w]
  rfl
 refine take_ (i := 2) (N := some 25) (v := ?_) (a' := ?_) #[true, false, true, false, true, false, false, false, false, false, false, false] rfl rfl (take_ofW HT_.out HW_.out (by kernel_rfl)) (fun _ _ _ h => h) (Or.inl ⟨by rfl, ?_⟩) hHeld ?_ ?_
 rotate_left
 ·rintro w' ⟨s0, s1, s2, s3, s4⟩
  go_simp
  with_reducible rfl
 rotate_left
 ·simp only [Act.put, List.setIfInBounds_toArray, List.set_cons_zero, List.set_cons_succ, i64_w, i32_w]
  rfl
 refine one_ (i := 1) (N := some 24) #[true, true, true, false, true, false, false, false, false, false, false, false] rfl rfl (one_of HT_.out (by kernel_rfl)) (by decide) (fun K hK => ?_)
 refine goes_ Try.func14 (by kernel_rfl) rfl #[.agg #[.int .i64 a0_0, .int .i64 a0_1, .slice A0_2 l0_2.length c0_2]] (by rfl) rfl rfl zaf4 ?_
 with_reducible refine (laws_toBoard.calls k a0_0 a0_1 _ _ l0_2 t765 t766 t767 _ ?side1 ?side2 A14.out).mono ?_
 (case side1 => exact zaf11)
 (case side2 => exact HC0_2.out)
 rintro e w29 ⟨v768, rfl, ho0, hb⟩
 refine ⟨_, rfl, ?_⟩
 have n0_ := Aside0.mk (Kd.R_lower ho0 (below_size zaf3))
 have n1_ := Aside0.mk (blk_below (g := gb762) (o := .cells #[.int .i64 a0_0, .int .i64 a0_1, .slice A0_2 l0_2.length c0_2] 24 (0, 0)) zaf2 hb)
 have n2_ := Aside0.mk (blk_below (g := gb763) (o := .cells #[.int .i64 a1_0, .int .i64 a1_1] 26 (0, 0)) zaf5 hb)
 have n3_ := Aside0.mk (below_step zaf3 hb)
 clear BK762
 clear BK763
 clear HB
 have HO769 := n0_
 have BK762 := n1_
 have BK763 := n2_
 have HB := n3_
 clear n0_ n1_ n2_ n3_
 (try clear hb)
 (try clear hb2)
 (try clear hk)
 (try clear hi)
 (try clear ho0)
 (try clear hna_)
 (try clear hnb_)
 refine hK.out _ _ ⟨(blk_cell BK762.out 0).trans rfl, (blk_cell BK762.out 1).trans rfl, (blk_cell BK762.out 2).trans rfl, (blk_cell BK763.out 0).trans rfl, (blk_cell BK763.out 1).trans rfl⟩ (fun hHeld => ?_)
 clear hK K
 refine norm_ (a' := ?_) ?_ ?_
 rotate_left
 ·show Act.put _ (some 24) _ = _
  simp only [Act.put, List.setIfInBounds_toArray, List.set_cons_zero, List.set_cons_succ, i64_w, i32_w]
  rfl
 refine one_ (i := 3) (N := some 26) #[true, true, true, true, true, false, false, false, false, false, false, false] rfl rfl (one_of HT_.out (by kernel_rfl)) (by decide) (fun K hK => ?_)
 refine goes_ Try.func15 (by kernel_rfl) rfl #[.agg #[.int .i64 a1_0, .int .i64 a1_1]] (by rfl) rfl rfl zaf4 ?_
 with_reducible refine (laws_toLeaper.calls a1_0 a1_1 t770 t771 _ A15.out).mono ?_
 rintro e w30 ⟨rfl, hb⟩
 refine ⟨_, rfl, ?_⟩
 have n0_ := Aside0.mk (Kd.R_below zaf12 hb)
 have n1_ := Aside0.mk (blk_below (g := gb762) (o := .cells #[.int .i64 a0_0, .int .i64 a0_1, .slice A0_2 l0_2.length c0_2] 24 (0, 0)) zaf2 hb)
 have n2_ := Aside0.mk (blk_below (g := gb763) (o := .cells #[.int .i64 a1_0, .int .i64 a1_1] 26 (0, 0)) zaf5 hb)
 have n3_ := Aside0.mk (below_step zaf3 hb)
 clear HO769
 clear BK762
 clear BK763
 clear HB
 have HO769 := n0_
 have BK762 := n1_
 have BK763 := n2_
 have HB := n3_
 clear n0_ n1_ n2_ n3_
 (try clear hb)
 (try clear hb2)
 (try clear hk)
 (try clear hi)
 (try clear hna_)
 (try clear hnb_)
 refine hK.out _ _ ⟨(blk_cell BK762.out 0).trans rfl, (blk_cell BK762.out 1).trans rfl, (blk_cell BK762.out 2).trans rfl, (blk_cell BK763.out 0).trans rfl, (blk_cell BK763.out 1).trans rfl⟩ (fun hHeld => ?_)
 clear hK K
 refine norm_ (a' := ?_) ?_ ?_
 rotate_left
 ·show Act.put _ (some 26) _ = _
  simp only [Act.put, List.setIfInBounds_toArray, List.set_cons_zero, List.set_cons_succ, i64_w, i32_w]
  rfl
 refine one_ (i := 5) (N := some 28) #[true, true, true, true, true, true, false, false, false, false, false, false] rfl rfl (one_of HT_.out (by kernel_rfl)) (by decide) (fun K hK => ?_)
 refine goes_ Try.func16 (by kernel_rfl) rfl #[.slice A2 l2.length c2] (by rfl) rfl rfl zaf4 ?_
 with_reducible refine (laws_toIntS.calls k _ _ l2 t772 _ ?side1 ?side2 A16.out).mono ?_
 (case side1 => exact zaf21)
 (case side2 => exact HC2.out)
 rintro e w31 ⟨v773, rfl, ho0, hb⟩
 refine ⟨_, rfl, ?_⟩
 have n0_ := Aside0.mk (Kd.R_elder' zaf12 (Kd.R_base ho0) hb)
 have n1_ := Aside0.mk (Kd.R_lower (Kd.R_new' ho0 (Kd.R_lt zaf12)) (below_size zaf3))
 have n2_ := Aside0.mk (blk_below (g := gb762) (o := .cells #[.int .i64 a0_0, .int .i64 a0_1, .slice A0_2 l0_2.length c0_2] 24 (0, 0)) zaf2 hb)
 have n3_ := Aside0.mk (blk_below (g := gb763) (o := .cells #[.int .i64 a1_0, .int .i64 a1_1] 26 (0, 0)) zaf5 hb)
 have n4_ := Aside0.mk (below_step zaf3 hb)
 clear HO769
 clear BK762
 clear BK763
 clear HB
 have HO769 := n0_
 have HO774 := n1_
 have BK762 := n2_
 have BK763 := n3_
 have HB := n4_
 clear n0_ n1_ n2_ n3_ n4_
 (try clear hb)
 (try clear hb2)
 (try clear hk)
 (try clear hi)
 (try clear ho0)
 (try clear hna_)
 (try clear hnb_)
 obtain ⟨Ao32, co32, eo32⟩ := Kd.R_slice HO769.out
 (first | subst eo32 | (injection eo32 with f1_ f2_ f3_; have f4_ := f1_.symm; have f5_ := f3_.symm; clear f1_ f2_ f3_; subst f4_; subst f5_))
 obtain ⟨Ao33, co33, eo33⟩ := Kd.R_slice HO774.out
 (first | subst eo33 | (injection eo33 with f1_ f2_ f3_; have f4_ := f1_.symm; have f5_ := f3_.symm; clear f1_ f2_ f3_; subst f4_; subst f5_))
 refine hK.out _ _ ⟨(blk_cell BK762.out 0).trans rfl, (blk_cell BK762.out 1).trans rfl, (blk_cell BK762.out 2).trans rfl, (blk_cell BK763.out 0).trans rfl, (blk_cell BK763.out 1).trans rfl⟩ (fun hHeld => ?_)
 clear hK K
 refine norm_ (a' := ?_) ?_ ?_
 rotate_left
 ·show Act.put _ (some 28) _ = _
  simp only [Act.put, List.setIfInBounds_toArray, List.set_cons_zero, List.set_cons_succ, i64_w, i32_w]
  rfl
 refine one_ (i := 6) (N := some 29) #[true, true, true, true, true, true, true, false, false, false, false, false] rfl rfl (one_of HT_.out (by kernel_rfl)) (by decide) (fun K hK => ?_)
 refine goes_ Try.func27 (by kernel_rfl) rfl #[.agg #[.int .i64 t765, .int .i64 t766, .slice Ao32 t767.length co32], .agg #[.int .i64 t770, .int .i64 t771], .slice Ao33 t772.length co33] (by rfl) rfl rfl zaf4 ?_
 with_reducible refine (spec_IsFarPainting.calls k t765 t766 _ _ t767 t770 t771 _ _ t772 t775 t776 _ ?side1 ?side2 ?side3 ?side4 A17.out).mono ?_
 (case side1 => repeat (first | exact (Kd.R_reads' HO769.out).2.2 | (with_reducible refine Kd.C_alloc ?_ _) | (with_reducible refine Kd.C_drewN ?_ _) | (with_reducible refine Kd.C_drew ?_)))
 (case side2 => exact (Kd.R_reads' HO769.out).2.1)
 (case side3 => repeat (first | exact (Kd.R_reads' HO774.out).2.2 | (with_reducible refine Kd.C_alloc ?_ _) | (with_reducible refine Kd.C_drewN ?_ _) | (with_reducible refine Kd.C_drew ?_)))
 (case side4 => exact (Kd.R_reads' HO774.out).2.1)
 rintro e w34 ⟨rfl, hb⟩
 refine ⟨_, rfl, ?_⟩
 have n0_ := Aside0.mk (Kd.R_below zaf12 hb)
 have n1_ := Aside0.mk (Kd.R_below zaf14 hb)
 have n2_ := Aside0.mk (blk_below (g := gb762) (o := .cells #[.int .i64 a0_0, .int .i64 a0_1, .slice A0_2 l0_2.length c0_2] 24 (0, 0)) zaf2 hb)
 have n3_ := Aside0.mk (blk_below (g := gb763) (o := .cells #[.int .i64 a1_0, .int .i64 a1_1] 26 (0, 0)) zaf5 hb)
 have n4_ := Aside0.mk (below_step zaf3 hb)
 clear HO769
 clear HO774
 clear BK762
 clear BK763
 clear HB
 have HO769 := n0_
 have HO774 := n1_
 have BK762 := n2_
 have BK763 := n3_
 have HB := n4_
 clear n0_ n1_ n2_ n3_ n4_
 (try clear hb)
 (try clear hb2)
 (try clear hk)
 (try clear hi)
 (try clear hna_)
 (try clear hnb_)
 refine hK.out _ _ ⟨(blk_cell BK762.out 0).trans rfl, (blk_cell BK762.out 1).trans rfl, (blk_cell BK762.out 2).trans rfl, (blk_cell BK763.out 0).trans rfl, (blk_cell BK763.out 1).trans rfl⟩ (fun hHeld => ?_)
 clear hK K
 refine norm_ (a' := ?_) ?_ ?_
 rotate_left
 ·show Act.put _ (some 29) _ = _
  simp only [Act.put, List.setIfInBounds_toArray, List.set_cons_zero, List.set_cons_succ, i64_w, i32_w]
  rfl
 refine pure_ (i := 7) (N := some 22) (v := ?_) (a' := ?_) #[true, true, true, true, true, true, true, true, false, false, false, false] rfl rfl (any_of HT_.out (by kernel_rfl)) (fun _ _ _ h => h) (Or.inl ⟨by rfl, ?_⟩) ?_ ?_
 rotate_left
 ·intro w'
  go_simp
  with_reducible rfl
 rotate_left
 ·simp only [Act.put, List.setIfInBounds_toArray, List.set_cons_zero, List.set_cons_succ, i64_w, i32_w]
  rfl
 refine pure_ (i := 8) (N := some 30) (v := ?_) (a' := ?_) #[true, true, true, true, true, true, true, true, true, false, false, false] rfl rfl (any_of HT_.out (by kernel_rfl)) (fun _ _ _ h => h) (Or.inl ⟨by rfl, ?_⟩) ?_ ?_
 rotate_left
 ·intro w'
  go_simp
  with_reducible rfl
 rotate_left
 ·simp only [Act.put, List.setIfInBounds_toArray, List.set_cons_zero, List.set_cons_succ, i64_w, i32_w]
  rfl
 refine pure_ (i := 9) (N := some 31) (v := ?_) (a' := ?_) #[true, true, true, true, true, true, true, true, true, true, false, false] rfl rfl (any_of HT_.out (by kernel_rfl)) (fun _ _ _ h => h) (Or.inl ⟨by rfl, ?_⟩) ?_ ?_
 rotate_left
 ·intro w'
  go_simp
  with_reducible rfl
 rotate_left
 ·simp only [Act.put, List.setIfInBounds_toArray, List.set_cons_zero, List.set_cons_succ, i64_w, i32_w]
  rfl
 refine pure_ (i := 10) (N := some 8) (v := ?_) (a' := ?_) #[true, true, true, true, true, true, true, true, true, true, true, false] rfl rfl (any_of HT_.out (by kernel_rfl)) (fun _ _ _ h => h) (Or.inl ⟨by rfl, ?_⟩) ?_ ?_
 rotate_left
 ·intro w'
  go_simp
  with_reducible rfl
 rotate_left
 ·simp only [Act.put, List.setIfInBounds_toArray, List.set_cons_zero, List.set_cons_succ, i64_w, i32_w]
  rfl
 refine pure_ (i := 11) (N := some 9) (v := ?_) (a' := ?_) #[true, true, true, true, true, true, true, true, true, true, true, true] rfl rfl (any_of HT_.out (by kernel_rfl)) (fun _ _ _ h => h) (Or.inl ⟨by rfl, ?_⟩) ?_ ?_
 rotate_left
 ·intro w'
  go_simp
  with_reducible rfl
 rotate_left
 ·simp only [Act.put, List.setIfInBounds_toArray, List.set_cons_zero, List.set_cons_succ, i64_w, i32_w]
  rfl
 refine done_ (done_of HT_.out (by kernel_rfl)) ?_
 have hcz35_0 : w34.cell? ⟨gb762, 0, none⟩ = some (.int .i64 a0_0) := (blk_cell BK762.out 0).trans rfl
 have hcz35_1 : w34.cell? ⟨gb762, 1, none⟩ = some (.int .i64 a0_1) := (blk_cell BK762.out 1).trans rfl
 have hcz35_2 : w34.cell? ⟨gb762, 2, none⟩ = some (.slice A0_2 l0_2.length c0_2) := (blk_cell BK762.out 2).trans rfl
 have hfz35_0 := blk_frozen BK762.out 0
 have hfz35_1 := blk_frozen BK762.out 1
 have hfz35_2 := blk_frozen BK762.out 2
 try go_wp2_with (first | ((with_reducible refine gate_callee (f := 14) rfl ?_); refine goesL_ (some 33) rfl rfl Try.func14 (by kernel_rfl) rfl #[.agg #[.int .i64 a0_0, .int .i64 a0_1, .slice A0_2 l0_2.length c0_2]] rfl zaf4 ?_; (with_reducible refine (laws_toBoard.calls k a0_0 a0_1 _ _ l0_2 t777 t778 t779 _ ?side1 ?side2 A18.out).mono ?_); (case side1 => exact zaf11); (case side2 => exact HC0_2.out); rintro e w36 ⟨v780, rfl, ho0, hb⟩; refine ⟨_, rfl, ?_⟩; have n0_ := Aside0.mk (Kd.R_elder' zaf12 (Kd.R_base ho0) hb); have n1_ := Aside0.mk (Kd.R_elder' zaf14 (Kd.R_base ho0) hb); have n2_ := Aside0.mk (Kd.R_lower (Kd.R_new' (Kd.R_new' ho0 (Kd.R_lt zaf12)) (Kd.R_lt zaf14)) (below_size zaf3)); have n3_ := Aside0.mk (blk_below (g := gb762) (o := .cells #[.int .i64 a0_0, .int .i64 a0_1, .slice A0_2 l0_2.length c0_2] 24 (0, 0)) zaf2 hb); have n4_ := Aside0.mk (blk_below (g := gb763) (o := .cells #[.int .i64 a1_0, .int .i64 a1_1] 26 (0, 0)) zaf5 hb); have n5_ := Aside0.mk (below_step zaf3 hb); clear HO769; clear HO774; clear BK762; clear BK763; clear HB; have HO769 := n0_; have HO774 := n1_; have HO781 := n2_; have BK762 := n3_; have BK763 := n4_; have HB := n5_; clear n0_ n1_ n2_ n3_ n4_ n5_; (try clear hb); (try clear hb2); (try clear hk); (try clear hi); (try clear ho0); (try clear hna_); (try clear hnb_)) | ((with_reducible refine gate_dst (N := 10) rfl ?_); refine box_event ?hg (N := 10) ?hd (cs := #[.int .i64 0, .int .i64 0, .slice none 0 0]) (t := 30) ?hr ?_; (case hd => rfl); (case hg => rfl); (case hr => first | (go_simp; done) | (go_simp; rfl)); intro gb782 hg w37 hbox hb; have n0_ := Aside0.mk (Kd.R_below zaf12 hb); have n1_ := Aside0.mk (Kd.R_below zaf14 hb); have n2_ := Aside0.mk (Kd.R_below zaf22 hb); have n3_ := Aside0.mk (blk_below (g := gb762) (o := .cells #[.int .i64 a0_0, .int .i64 a0_1, .slice A0_2 l0_2.length c0_2] 24 (0, 0)) zaf2 hb); have n4_ := Aside0.mk (blk_below (g := gb763) (o := .cells #[.int .i64 a1_0, .int .i64 a1_1] 26 (0, 0)) zaf5 hb); have n5_ := Aside0.mk (below_step zaf3 hb); have n6_ := Aside0.mk (hbox); have n7_ := Aside0.mk ((by rw [hg]; exact (below_size zaf3) : w.heap.size ≤ gb782)); have n8_ := Aside0.mk ((by rw [hg]; exact (below_size zaf3) : w.heap.size ≤ gb782)); have n9_ := Aside0.mk ((zaf27 : gb762 ≠ gb782)); have n10_ := Aside0.mk ((zaf28 : gb782 ≠ gb762)); have n11_ := Aside0.mk ((by rw [hg]; exact Nat.ne_of_lt (blk_lt (g := gb763) (o := .cells #[.int .i64 a1_0, .int .i64 a1_1] 26 (0, 0)) zaf5) : gb763 ≠ gb782)); have n12_ := Aside0.mk ((by rw [hg]; exact Nat.ne_of_gt (blk_lt (g := gb763) (o := .cells #[.int .i64 a1_0, .int .i64 a1_1] 26 (0, 0)) zaf5) : gb782 ≠ gb763)); clear HO769; clear HO774; clear HO781; clear BK762; clear BK763; clear HB; have HO769 := n0_; have HO774 := n1_; have HO781 := n2_; have BK762 := n3_; have BK763 := n4_; have HB := n5_; have BK782 := n6_; have GW782 := n7_; have GE782 := n8_; have NB762_782 := n9_; have NB782_762 := n10_; have NB763_782 := n11_; have NB782_763 := n12_; clear n0_ n1_ n2_ n3_ n4_ n5_ n6_ n7_ n8_ n9_ n10_ n11_ n12_; clear hb hbox hg; have hnb38 := NB782_762.out; have hnc38 := NB762_782.out; have hnb39 := NB782_763.out; have hnc39 := NB763_782.out; have hcz40_0 : w37.cell? ⟨gb782, 0, none⟩ = some (.int .i64 0) := (blk_cell BK782.out 0).trans rfl; have hcz40_1 : w37.cell? ⟨gb782, 1, none⟩ = some (.int .i64 0) := (blk_cell BK782.out 1).trans rfl; have hcz40_2 : w37.cell? ⟨gb782, 2, none⟩ = some (.slice none 0 0) := (blk_cell BK782.out 2).trans rfl; have hfz40_0 := blk_frozen BK782.out 0; have hfz40_1 := blk_frozen BK782.out 1; have hfz40_2 := blk_frozen BK782.out 2; obtain ⟨Ao41, co41, eo41⟩ := Kd.R_slice HO781.out; subst eo41) | ((with_reducible refine gate_callee (f := 16) rfl ?_); refine goesL_ (some 35) rfl rfl Try.func16 (by kernel_rfl) rfl #[.slice A2 l2.length c2] rfl zaf4 ?_; (with_reducible refine (laws_toIntS.calls k _ _ l2 t783 _ ?side1 ?side2 A19.out).mono ?_); (case side1 => exact Kd.C_below HR2.out zaf1); (case side2 => exact HC2.out); rintro e w42 ⟨v784, rfl, ho0, hb⟩; refine ⟨_, rfl, ?_⟩; have n0_ := Aside0.mk (Kd.R_elder' zaf18 (Kd.R_base ho0) hb); have n1_ := Aside0.mk (Kd.R_elder' zaf17 (Kd.R_base ho0) hb); have n2_ := Aside0.mk (Kd.R_elder' zaf16 (Kd.R_base ho0) hb); have n3_ := Aside0.mk (Kd.R_lower (Kd.R_new' (Kd.R_new' (Kd.R_new' ho0 (Kd.R_lt zaf18)) (Kd.R_lt zaf17)) (Kd.R_lt zaf16)) (below_size zaf1)); have n4_ := Aside0.mk (blk_below (g := gb762) (o := .cells #[.int .i64 a0_0, .int .i64 a0_1, .slice A0_2 l0_2.length c0_2] 24 (0, 0)) (by (with_reducible repeat (first | refine blk_drewN ?_ _ | refine blk_drew ?_ | refine blk_alloc ?_ _)); refine blk_far ?_ NB762_782.out _; (with_reducible repeat (first | refine blk_drewN ?_ _ | refine blk_drew ?_ | refine blk_alloc ?_ _)); refine blk_far ?_ NB762_782.out _; (with_reducible repeat (first | refine blk_drewN ?_ _ | refine blk_drew ?_ | refine blk_alloc ?_ _)); refine blk_far ?_ NB762_782.out _; first | exact BK762.out | ((with_reducible repeat (first | refine blk_drewN ?_ _ | refine blk_drew ?_ | refine blk_alloc ?_ _)); exact BK762.out)) hb); have n5_ := Aside0.mk (blk_below (g := gb763) (o := .cells #[.int .i64 a1_0, .int .i64 a1_1] 26 (0, 0)) (by (with_reducible repeat (first | refine blk_drewN ?_ _ | refine blk_drew ?_ | refine blk_alloc ?_ _)); refine blk_far ?_ NB763_782.out _; (with_reducible repeat (first | refine blk_drewN ?_ _ | refine blk_drew ?_ | refine blk_alloc ?_ _)); refine blk_far ?_ NB763_782.out _; (with_reducible repeat (first | refine blk_drewN ?_ _ | refine blk_drew ?_ | refine blk_alloc ?_ _)); refine blk_far ?_ NB763_782.out _; first | exact BK763.out | ((with_reducible repeat (first | refine blk_drewN ?_ _ | refine blk_drew ?_ | refine blk_alloc ?_ _)); exact BK763.out)) hb); have n6_ := Aside0.mk (blk_below (g := gb782) (o := .cells #[.int .i64 t777, .int .i64 t778, .slice Ao41 t779.length co41] 30 (0, 0)) (by (with_reducible repeat (first | refine blk_drewN ?_ _ | refine blk_drew ?_ | refine blk_alloc ?_ _)); refine blk_put (cs := #[.int .i64 t777, .int .i64 t778, .slice none 0 0]) ?_ 2 _ rfl; (with_reducible repeat (first | refine blk_drewN ?_ _ | refine blk_drew ?_ | refine blk_alloc ?_ _)); refine blk_put (cs := #[.int .i64 t777, .int .i64 0, .slice none 0 0]) ?_ 1 _ rfl; (with_reducible repeat (first | refine blk_drewN ?_ _ | refine blk_drew ?_ | refine blk_alloc ?_ _)); refine blk_put (cs := #[.int .i64 0, .int .i64 0, .slice none 0 0]) ?_ 0 _ rfl; first | exact BK782.out | ((with_reducible repeat (first | refine blk_drewN ?_ _ | refine blk_drew ?_ | refine blk_alloc ?_ _)); exact BK782.out)) hb); have n7_ := Aside0.mk (below_step zaf1 hb); clear HO769; clear HO774; clear HO781; clear BK762; clear BK763; clear BK782; clear HB; have HO769 := n0_; have HO774 := n1_; have HO781 := n2_; have HO785 := n3_; have BK762 := n4_; have BK763 := n5_; have BK782 := n6_; have HB := n7_; clear n0_ n1_ n2_ n3_ n4_ n5_ n6_ n7_; (try clear hb); (try clear hb2); (try clear hk); (try clear hi); (try clear ho0); (try clear hna_); (try clear hnb_)))
 have n0_ := Aside0.mk (Kd.R_drew HO769.out)
 have n1_ := Aside0.mk (Kd.R_drew HO774.out)
 have n2_ := Aside0.mk (Kd.R_drew HO781.out)
 have n3_ := Aside0.mk (Kd.R_drew HO785.out)
 have n4_ := Aside0.mk (blk_drew BK762.out)
 have n5_ := Aside0.mk (blk_drew BK763.out)
 have n6_ := Aside0.mk (blk_drew BK782.out)
 have n7_ := Aside0.mk (below_drew1 HB.out)
 clear HO769
 clear HO774
 clear HO781
 clear HO785
 clear BK762
 clear BK763
 clear BK782
 clear HB
 have HO769 := n0_
 have HO774 := n1_
 have HO781 := n2_
 have HO785 := n3_
 have BK762 := n4_
 have BK763 := n5_
 have BK782 := n6_
 have HB := n7_
 clear n0_ n1_ n2_ n3_ n4_ n5_ n6_ n7_
 refine start_ (n := 10) (S := fun w' => w'.cell? ⟨gb782, 0, none⟩ = some (.int .i64 t777) ∧ w'.cell? ⟨gb782, 1, none⟩ = some (.int .i64 t778) ∧ w'.cell? ⟨gb782, 2, none⟩ = some (.slice Ao41 t779.length co41) ∧ w'.cell? ⟨gb763, 0, none⟩ = some (.int .i64 a1_0) ∧ w'.cell? ⟨gb763, 1, none⟩ = some (.int .i64 a1_1)) (ds := []) #[false, false, false, false, false, false, false, false, false, false] (by kernel_rfl) rfl rfl ⟨(blk_cell BK782.out 0).trans rfl, (blk_cell BK782.out 1).trans rfl, (blk_cell BK782.out 2).trans rfl, (blk_cell BK763.out 0).trans rfl, (blk_cell BK763.out 1).trans rfl⟩ (fun hHeld => ?_); refine with_tabW laws_FnExactIsFarPainting.tab10 laws_FnExactIsFarPainting.bits10 (fun HT_ HW_ => ?_)
 generalize w42.drew = w43 at HO769 HO774 HO781 HO785 BK762 BK763 BK782 HB hHeld ⊢
 refine pure_ (i := 3) (N := some 40) (v := ?_) (a' := ?_) #[false, false, false, true, false, false, false, false, false, false] rfl rfl (any_of HT_.out (by kernel_rfl)) (fun _ _ _ h => h) (Or.inl ⟨by rfl, ?_⟩) ?_ ?_
 rotate_left
 ·intro w'
  go_simp
  with_reducible rfl
 rotate_left
 ·simp only [Act.put, List.setIfInBounds_toArray, List.set_cons_zero, List.set_cons_succ, i64_w, i32_w]
  rfl
 refine take_ (i := 0) (N := some 37) (v := ?_) (a' := ?_) #[true, false, false, true, false, false, false, false, false, false] rfl rfl (take_ofW HT_.out HW_.out (by kernel_rfl)) (fun _ _ _ h => h) (Or.inl ⟨by rfl, ?_⟩) hHeld ?_ ?_
 rotate_left
 ·rintro w' ⟨s0, s1, s2, s3, s4⟩
  go_simp
  with_reducible rfl
 rotate_left
 ·simp only [Act.put, List.setIfInBounds_toArray, List.set_cons_zero, List.set_cons_succ, i64_w, i32_w]
  rfl
 refine take_ (i := 1) (N := some 38) (v := ?_) (a' := ?_) #[true, true, false, true, false, false, false, false, false, false] rfl rfl (take_ofW HT_.out HW_.out (by kernel_rfl)) (fun _ _ _ h => h) (Or.inl ⟨by rfl, ?_⟩) hHeld ?_ ?_
 rotate_left
 ·rintro w' ⟨s0, s1, s2, s3, s4⟩
  go_simp
  with_reducible rfl
 rotate_left
 ·simp only [Act.put, List.setIfInBounds_toArray, List.set_cons_zero, List.set_cons_succ, i64_w, i32_w]
  rfl
 refine one_ (i := 2) (N := some 39) #[true, true, true, true, false, false, false, false, false, false] rfl rfl (one_of HT_.out (by kernel_rfl)) (by decide) (fun K hK => ?_)
 refine goes_ Try.func15 (by kernel_rfl) rfl #[.agg #[.int .i64 a1_0, .int .i64 a1_1]] (by rfl) rfl rfl zaf4 ?_
 with_reducible refine (laws_toLeaper.calls a1_0 a1_1 t786 t787 _ A20.out).mono ?_
 rintro e w44 ⟨rfl, hb⟩
 refine ⟨_, rfl, ?_⟩
 have n0_ := Aside0.mk (Kd.R_below zaf12 hb)
 have n1_ := Aside0.mk (Kd.R_below zaf14 hb)
 have n2_ := Aside0.mk (Kd.R_below zaf22 hb)
 have n3_ := Aside0.mk (Kd.R_below (by first | exact HO785.out | ((with_reducible repeat (first | apply Kd.R_alloc | apply Kd.R_drewN | apply Kd.R_drew)); exact HO785.out)) hb)
 have n4_ := Aside0.mk (blk_below (g := gb762) (o := .cells #[.int .i64 a0_0, .int .i64 a0_1, .slice A0_2 l0_2.length c0_2] 24 (0, 0)) zaf2 hb)
 have n5_ := Aside0.mk (blk_below (g := gb763) (o := .cells #[.int .i64 a1_0, .int .i64 a1_1] 26 (0, 0)) zaf5 hb)
 have n6_ := Aside0.mk (blk_below (g := gb782) (o := .cells #[.int .i64 t777, .int .i64 t778, .slice Ao41 t779.length co41] 30 (0, 0)) zaf8 hb)
 have n7_ := Aside0.mk (below_step zaf1 hb)
 clear HO769
 clear HO774
 clear HO781
 clear HO785
 clear BK762
 clear BK763
 clear BK782
 clear HB
 have HO769 := n0_
 have HO774 := n1_
 have HO781 := n2_
 have HO785 := n3_
 have BK762 := n4_
 have BK763 := n5_
 have BK782 := n6_
 have HB := n7_
 clear n0_ n1_ n2_ n3_ n4_ n5_ n6_ n7_
 (try clear hb)
 (try clear hb2)
 (try clear hk)
 (try clear hi)
 (try clear hna_)
 (try clear hnb_)
 obtain ⟨Ao45, co45, eo45⟩ := Kd.R_slice HO785.out
 (first | subst eo45 | (injection eo45 with f1_ f2_ f3_; have f4_ := f1_.symm; have f5_ := f3_.symm; clear f1_ f2_ f3_; subst f4_; subst f5_))
 refine hK.out _ _ ⟨(blk_cell BK782.out 0).trans rfl, (blk_cell BK782.out 1).trans rfl, (blk_cell BK782.out 2).trans rfl, (blk_cell BK763.out 0).trans rfl, (blk_cell BK763.out 1).trans rfl⟩ (fun hHeld => ?_)
 clear hK K
 refine norm_ (a' := ?_) ?_ ?_
 rotate_left
 ·show Act.put _ (some 39) _ = _
  simp only [Act.put, List.setIfInBounds_toArray, List.set_cons_zero, List.set_cons_succ, i64_w, i32_w]
  rfl
 refine one_ (i := 4) (N := some 41) #[true, true, true, true, true, false, false, false, false, false] rfl rfl (one_of HT_.out (by kernel_rfl)) (by decide) (fun K hK => ?_)
 refine goes_ Try.func28 (by kernel_rfl) rfl #[.agg #[.int .i64 t777, .int .i64 t778, .slice Ao41 t779.length co41], .agg #[.int .i64 t786, .int .i64 t787], .slice Ao45 t783.length co45] (by rfl) rfl rfl zaf4 ?_
 with_reducible refine (impl_IsFarPainting.calls k t777 t778 _ _ t779 t786 t787 _ _ t783 t788 t789 _ ?side1 ?side2 ?side3 ?side4 A21.out).mono ?_
 (case side1 => repeat (first | exact (Kd.R_reads' HO781.out).2.2 | (with_reducible refine Kd.C_alloc ?_ _) | (with_reducible refine Kd.C_drewN ?_ _) | (with_reducible refine Kd.C_drew ?_)))
 (case side2 => exact (Kd.R_reads' HO781.out).2.1)
 (case side3 => repeat (first | exact (Kd.R_reads' HO785.out).2.2 | (with_reducible refine Kd.C_alloc ?_ _) | (with_reducible refine Kd.C_drewN ?_ _) | (with_reducible refine Kd.C_drew ?_)))
 (case side4 => exact (Kd.R_reads' HO785.out).2.1)
 rintro e w46 ⟨rfl, hb⟩
 refine ⟨_, rfl, ?_⟩
 have n0_ := Aside0.mk (Kd.R_below zaf12 hb)
 have n1_ := Aside0.mk (Kd.R_below zaf14 hb)
 have n2_ := Aside0.mk (Kd.R_below zaf22 hb)
 have n3_ := Aside0.mk (Kd.R_below (by first | exact HO785.out | ((with_reducible repeat (first | apply Kd.R_alloc | apply Kd.R_drewN | apply Kd.R_drew)); exact HO785.out)) hb)
 have n4_ := Aside0.mk (blk_below (g := gb762) (o := .cells #[.int .i64 a0_0, .int .i64 a0_1, .slice A0_2 l0_2.length c0_2] 24 (0, 0)) zaf2 hb)
 have n5_ := Aside0.mk (blk_below (g := gb763) (o := .cells #[.int .i64 a1_0, .int .i64 a1_1] 26 (0, 0)) zaf5 hb)
 have n6_ := Aside0.mk (blk_below (g := gb782) (o := .cells #[.int .i64 t777, .int .i64 t778, .slice Ao41 t779.length co41] 30 (0, 0)) zaf8 hb)
 have n7_ := Aside0.mk (below_step zaf1 hb)
 clear HO769
 clear HO774
 clear HO781
 clear HO785
 clear BK762
 clear BK763
 clear BK782
 clear HB
 have HO769 := n0_
 have HO774 := n1_
 have HO781 := n2_
 have HO785 := n3_
 have BK762 := n4_
 have BK763 := n5_
 have BK782 := n6_
 have HB := n7_
 clear n0_ n1_ n2_ n3_ n4_ n5_ n6_ n7_
 (try clear hb)
 (try clear hb2)
 (try clear hk)
 (try clear hi)
 (try clear hna_)
 (try clear hnb_)
 refine hK.out _ _ ⟨(blk_cell BK782.out 0).trans rfl, (blk_cell BK782.out 1).trans rfl, (blk_cell BK782.out 2).trans rfl, (blk_cell BK763.out 0).trans rfl, (blk_cell BK763.out 1).trans rfl⟩ (fun hHeld => ?_)
 clear hK K
 refine norm_ (a' := ?_) ?_ ?_
 rotate_left
 ·show Act.put _ (some 41) _ = _
  simp only [Act.put, List.setIfInBounds_toArray, List.set_cons_zero, List.set_cons_succ, i64_w, i32_w]
  rfl
 refine pure_ (i := 5) (N := some 36) (v := ?_) (a' := ?_) #[true, true, true, true, true, true, false, false, false, false] rfl rfl (any_of HT_.out (by kernel_rfl)) (fun _ _ _ h => h) (Or.inl ⟨by rfl, ?_⟩) ?_ ?_
 rotate_left
 ·intro w'
  go_simp
  with_reducible rfl
 rotate_left
 ·simp only [Act.put, List.setIfInBounds_toArray, List.set_cons_zero, List.set_cons_succ, i64_w, i32_w]
  rfl
 refine pure_ (i := 6) (N := some 42) (v := ?_) (a' := ?_) #[true, true, true, true, true, true, true, false, false, false] rfl rfl (any_of HT_.out (by kernel_rfl)) (fun _ _ _ h => h) (Or.inl ⟨by rfl, ?_⟩) ?_ ?_
 rotate_left
 ·intro w'
  go_simp
  with_reducible rfl
 rotate_left
 ·simp only [Act.put, List.setIfInBounds_toArray, List.set_cons_zero, List.set_cons_succ, i64_w, i32_w]
  rfl
 refine pure_ (i := 7) (N := some 43) (v := ?_) (a' := ?_) #[true, true, true, true, true, true, true, true, false, false] rfl rfl (any_of HT_.out (by kernel_rfl)) (fun _ _ _ h => h) (Or.inl ⟨by rfl, ?_⟩) ?_ ?_
 rotate_left
 ·intro w'
  go_simp
  with_reducible rfl
 rotate_left
 ·simp only [Act.put, List.setIfInBounds_toArray, List.set_cons_zero, List.set_cons_succ, i64_w, i32_w]
  rfl
 refine pure_ (i := 8) (N := some 12) (v := ?_) (a' := ?_) #[true, true, true, true, true, true, true, true, true, false] rfl rfl (any_of HT_.out (by kernel_rfl)) (fun _ _ _ h => h) (Or.inl ⟨by rfl, ?_⟩) ?_ ?_
 rotate_left
 ·intro w'
  go_simp
  with_reducible rfl
 rotate_left
 ·simp only [Act.put, List.setIfInBounds_toArray, List.set_cons_zero, List.set_cons_succ, i64_w, i32_w]
  rfl
 refine pure_ (i := 9) (N := some 13) (v := ?_) (a' := ?_) #[true, true, true, true, true, true, true, true, true, true] rfl rfl (any_of HT_.out (by kernel_rfl)) (fun _ _ _ h => h) (Or.inl ⟨by rfl, ?_⟩) ?_ ?_
 rotate_left
 ·intro w'
  go_simp
  with_reducible rfl
 rotate_left
 ·simp only [Act.put, List.setIfInBounds_toArray, List.set_cons_zero, List.set_cons_succ, i64_w, i32_w]
  rfl
 refine done_ (done_of HT_.out (by kernel_rfl)) ?_
 go_upto_region 11 with (fail)
 go_cut [51] (fun v51 wc => ∃ (kq : Nat) (x51_21 : Bool), v51 = .bool x51_21 ∧ Aside0 (laws_FnExactIsFarPainting.j0 kq l2 t783 x51_21 a0_0 a0_1 l0_2 t777 t778 t779 = some r) ∧ Aside0 (kq ≤ k) ∧ Aside0 (Kd.R (Kd.int .i64) 3 wc w.heap.size (fun k_ => some k_ ≠ ((.slice Ao41 t779.length co41) : Value).ownBlock) (.slice Ao45 t783.length co45) t783) ∧ Aside0 (Kd.R (Kd.int .i64) 3 wc w.heap.size (fun k_ => some k_ ≠ ((.slice Ao45 t783.length co45) : Value).ownBlock) (.slice Ao41 t779.length co41) t779) ∧ Aside0 (wc.heap[gb762]? = some (.cells #[.int .i64 a0_0, .int .i64 a0_1, (.slice A0_2 l0_2.length c0_2)] 24 (0, 0))) ∧ Aside0 (wc.heap[gb763]? = some (.cells #[.int .i64 a1_0, .int .i64 a1_1] 26 (0, 0))) ∧ Aside0 (wc.heap[gb782]? = some (.cells #[.int .i64 t777, .int .i64 t778, (.slice Ao41 t779.length co41)] 30 (0, 0))) ∧ Aside0 (Below w.heap.size w wc))
 case first =>
  have H := HC22.out
  clear HC22
  by_cases c47 : (t788 != t775) = true
  rotate_left
  ·rw [if_neg c47] at H
   have c47b0 : (t788 != t775) = false := by simpa using c47
   (try (have c47b1 : decide (t788 = t775) = true := by simpa using c47))
   (try (have c47b2 : (t788 == t775) = true := by simpa using c47))
   clear c47
   (first | rw [c47b0] | (simp only [i64_w, i32_w]; rw [c47b0]) | skip)
   have H' := Aside0.mk H
   clear H
   go_wp2
   go_meet
   case rel => exact ⟨_, ((t789 != t776)), (by first | rfl | (simp; done) | (simp [*]; done)), H', ⟨by first | omega | exact Nat.le_refl _⟩, ⟨zaf25⟩, ⟨zaf26⟩, ⟨zaf2⟩, ⟨zaf5⟩, ⟨zaf8⟩, ⟨zaf1⟩⟩
  rw [if_pos c47] at H
  have c47b0 : (t788 != t775) = true := c47
  (try (have c47b1 : decide (t788 = t775) = false := by simpa using c47))
  (try (have c47b2 : (t788 == t775) = false := by simpa using c47))
  (try (have c47b3 : ¬ (t788 = t775) := by simpa using c47))
  clear c47
  (first | rw [c47b0] | (simp only [i64_w, i32_w]; rw [c47b0]) | skip)
  have H' := Aside0.mk H
  clear H
  go_wp2
  go_meet
  case rel => exact ⟨_, (true), (by first | rfl | (simp; done) | (simp [*]; done)), H', ⟨by first | omega | exact Nat.le_refl _⟩, ⟨zaf25⟩, ⟨zaf26⟩, ⟨zaf2⟩, ⟨zaf5⟩, ⟨zaf8⟩, ⟨zaf1⟩⟩
 case rest =>
  clear HC22
  try clear c1; try clear c2; try clear p2; try clear c3; try clear c4; try clear c4b0; try clear c4b1; try clear c6; try clear c8; try clear c8b0; try clear c11; try clear c12; try clear c14; try clear c15; try clear c16; try clear c25; try clear c27; try clear c28; try clear c38; try clear c39; try clear c47; try clear c47b0; try clear c47b1; try clear c47b2; try clear hcz12_0; try clear hcz12_1; try clear hcz12_2; try clear hcz26_0; try clear hcz26_1; try clear hcz26_2; try clear hcz35_0; try clear hcz35_1; try clear hcz35_2; try clear hcz40_0; try clear hcz40_1; try clear hcz40_2; try clear hfz12_0
  try clear hfz12_1; try clear hfz12_2; try clear hfz26_0; try clear hfz26_1; try clear hfz26_2; try clear hfz35_0; try clear hfz35_1; try clear hfz35_2; try clear hfz40_0; try clear hfz40_1; try clear hfz40_2
  obtain ⟨kq, x51_21, rfl, HA, HJ21, HO_11, HO_783002, BK762, BK763, BK782, HB⟩ := hcut
  cases kq with
  | zero => exact absurd HA.out (by simp [laws_FnExactIsFarPainting.j0])
  | succ kj21 =>
   have H := HA.out
   clear HA
   simp only [laws_FnExactIsFarPainting.j0] at H
   by_cases c48 : x51_21 = true
   ·subst c48
    have H1 : (some false) = some r := by rw [if_pos rfl] at H; exact H
    clear H
    have H := H1
    clear H1
    obtain rfl := Option.some.inj H
    go_wp2
    go_ret
    exact ⟨zaf15, zaf1⟩
   replace c48 := Bool.eq_false_iff.mpr c48
   subst c48
   have H1 : ((laws_toBoard.f kj21 a0_0 a0_1 l0_2).bind fun bt790 => ((laws_eqBoard.f kj21 t777 t778 t779 bt790.1 bt790.2.1 bt790.2.2).bind fun t795 => (if t795 = true then ((laws_toIntS.f kj21 l2).bind fun t796 => ((laws_eqIntS.f kj21 t783 t796).bind fun t799 => (if t799 = true then (some true) else (some false)))) else (some false)))) = some r := by rw [if_neg (show ¬ (false = true) by decide)] at H; exact H
   clear H
   have H := H1
   clear H1
   replace H := Option.bind_eq_some_iff.mp H
   obtain ⟨⟨t790, t791, t792⟩, A490, H⟩ := H
   replace H : ((laws_eqBoard.f kj21 t777 t778 t779 t790 t791 t792).bind fun t795 => (if t795 = true then ((laws_toIntS.f kj21 l2).bind fun t796 => ((laws_eqIntS.f kj21 t783 t796).bind fun t799 => (if t799 = true then (some true) else (some false)))) else (some false))) = some r := H
   have A49 := Aside0.mk A490
   clear A490
   replace H := Option.bind_eq_some_iff.mp H
   obtain ⟨t795, A500, H⟩ := H
   replace H : (if t795 = true then ((laws_toIntS.f kj21 l2).bind fun t796 => ((laws_eqIntS.f kj21 t783 t796).bind fun t799 => (if t799 = true then (some true) else (some false)))) else (some false)) = some r := H
   have A50 := Aside0.mk A500
   clear A500
   by_cases c51 : t795 = true
   rotate_left
   ·replace c51 := Bool.eq_false_iff.mpr c51
    subst c51
    have H1 : (some false) = some r := by rw [if_neg (show ¬ (false = true) by decide)] at H; exact H
    clear H
    have H := H1
    clear H1
    obtain rfl := Option.some.inj H
    try go_wp2
    have n0_ := Aside0.mk (Kd.R_drew HO_11.out)
    have n1_ := Aside0.mk (Kd.R_drew HO_783002.out)
    have n2_ := Aside0.mk (blk_drew BK762.out)
    have n3_ := Aside0.mk (blk_drew BK763.out)
    have n4_ := Aside0.mk (blk_drew BK782.out)
    have n5_ := Aside0.mk (below_drew1 HB.out)
    clear HO_11
    clear HO_783002
    clear BK762
    clear BK763
    clear BK782
    clear HB
    have HO_11 := n0_
    have HO_783002 := n1_
    have BK762 := n2_
    have BK763 := n3_
    have BK782 := n4_
    have HB := n5_
    clear n0_ n1_ n2_ n3_ n4_ n5_
    refine start_ (n := 5) (S := fun w' => w'.cell? ⟨gb782, 0, none⟩ = some (.int .i64 t777) ∧ w'.cell? ⟨gb782, 1, none⟩ = some (.int .i64 t778) ∧ w'.cell? ⟨gb782, 2, none⟩ = some (.slice Ao41 t779.length co41) ∧ w'.cell? ⟨gb762, 0, none⟩ = some (.int .i64 a0_0) ∧ w'.cell? ⟨gb762, 1, none⟩ = some (.int .i64 a0_1) ∧ w'.cell? ⟨gb762, 2, none⟩ = some (.slice A0_2 l0_2.length c0_2)) (ds := []) #[false, false, false, false, false] (by kernel_rfl) rfl rfl ⟨(blk_cell BK782.out 0).trans rfl, (blk_cell BK782.out 1).trans rfl, (blk_cell BK782.out 2).trans rfl, (blk_cell BK762.out 0).trans rfl, (blk_cell BK762.out 1).trans rfl, (blk_cell BK762.out 2).trans rfl⟩ (fun hHeld => ?_)
    generalize wc.drew = w67 at HO_11 HO_783002 BK762 BK763 BK782 HB hHeld ⊢
    refine take_ (i := 0) (N := some 52) (v := ?_) (a' := ?_) #[true, false, false, false, false] rfl rfl (by kernel_rfl) (fun _ _ _ h => h) (Or.inl ⟨by rfl, ?_⟩) hHeld ?_ ?_
    rotate_left
    ·rintro w' ⟨s0, s1, s2, s3, s4, s5⟩
     go_simp
     with_reducible rfl
    rotate_left
    ·simp only [Act.put, List.setIfInBounds_toArray, List.set_cons_zero, List.set_cons_succ, i64_w, i32_w]
     rfl
    refine take_ (i := 1) (N := some 53) (v := ?_) (a' := ?_) #[true, true, false, false, false] rfl rfl (by kernel_rfl) (fun _ _ _ h => h) (Or.inl ⟨by rfl, ?_⟩) hHeld ?_ ?_
    rotate_left
    ·rintro w' ⟨s0, s1, s2, s3, s4, s5⟩
     go_simp
     with_reducible rfl
    rotate_left
    ·simp only [Act.put, List.setIfInBounds_toArray, List.set_cons_zero, List.set_cons_succ, i64_w, i32_w]
     rfl
    refine one_ (i := 2) (N := some 54) #[true, true, true, false, false] rfl rfl (by kernel_rfl) (by decide) (fun K hK => ?_)
    refine goes_ Try.func14 (by kernel_rfl) rfl #[.agg #[.int .i64 a0_0, .int .i64 a0_1, .slice A0_2 l0_2.length c0_2]] (by rfl) rfl rfl zaf4 ?_
    with_reducible refine (laws_toBoard.calls kj21 a0_0 a0_1 _ _ l0_2 t790 t791 t792 _ ?side1 ?side2 A49.out).mono ?_
    (case side1 => exact zaf11)
    (case side2 => exact HC0_2.out)
    rintro e w68 ⟨v793, rfl, ho0, hb⟩
    refine ⟨_, rfl, ?_⟩
    have n0_ := Aside0.mk (Kd.R_elder' zaf9 (Kd.R_base ho0) hb)
    have n1_ := Aside0.mk (Kd.R_elder' zaf7 (Kd.R_base ho0) hb)
    have n2_ := Aside0.mk (Kd.R_lower (Kd.R_new' (Kd.R_new' ho0 (Kd.R_lt zaf9)) (Kd.R_lt zaf7)) (below_size zaf1))
    have n3_ := Aside0.mk (blk_below (g := gb762) (o := .cells #[.int .i64 a0_0, .int .i64 a0_1, .slice A0_2 l0_2.length c0_2] 24 (0, 0)) zaf2 hb)
    have n4_ := Aside0.mk (blk_below (g := gb763) (o := .cells #[.int .i64 a1_0, .int .i64 a1_1] 26 (0, 0)) zaf5 hb)
    have n5_ := Aside0.mk (blk_below (g := gb782) (o := .cells #[.int .i64 t777, .int .i64 t778, .slice Ao41 t779.length co41] 30 (0, 0)) zaf8 hb)
    have n6_ := Aside0.mk (below_step zaf1 hb)
    clear HO_11
    clear HO_783002
    clear BK762
    clear BK763
    clear BK782
    clear HB
    have HO_11 := n0_
    have HO_783002 := n1_
    have HO794 := n2_
    have BK762 := n3_
    have BK763 := n4_
    have BK782 := n5_
    have HB := n6_
    clear n0_ n1_ n2_ n3_ n4_ n5_ n6_
    (try clear hb)
    (try clear hb2)
    (try clear hk)
    (try clear hi)
    (try clear ho0)
    (try clear hna_)
    (try clear hnb_)
    obtain ⟨Ao69, co69, eo69⟩ := Kd.R_slice HO794.out
    (first | subst eo69 | (injection eo69 with f1_ f2_ f3_; have f4_ := f1_.symm; have f5_ := f3_.symm; clear f1_ f2_ f3_; subst f4_; subst f5_))
    refine hK.out _ _ ⟨(blk_cell BK782.out 0).trans rfl, (blk_cell BK782.out 1).trans rfl, (blk_cell BK782.out 2).trans rfl, (blk_cell BK762.out 0).trans rfl, (blk_cell BK762.out 1).trans rfl, (blk_cell BK762.out 2).trans rfl⟩ (fun hHeld => ?_)
    clear hK K
    refine norm_ (a' := ?_) ?_ ?_
    rotate_left
    ·show Act.put _ (some 54) _ = _
     simp only [Act.put, List.setIfInBounds_toArray, List.set_cons_zero, List.set_cons_succ, i64_w, i32_w]
     rfl
    refine one_ (i := 3) (N := some 55) #[true, true, true, true, false] rfl rfl (by kernel_rfl) (by decide) (fun K hK => ?_)
    refine goes_ Try.func19 (by kernel_rfl) rfl #[.agg #[.int .i64 t777, .int .i64 t778, .slice Ao41 t779.length co41], .agg #[.int .i64 t790, .int .i64 t791, .slice Ao69 t792.length co69]] (by rfl) rfl rfl zaf4 ?_
    with_reducible refine (laws_eqBoard.calls kj21 t777 t778 _ _ t779 t790 t791 _ _ t792 false _ ?side1 ?side2 ?side3 ?side4 A50.out).mono ?_
    (case side1 => exact zaf19)
    (case side2 => exact (Kd.R_reads' HO_783002.out).2.1)
    (case side3 => exact zaf20)
    (case side4 => exact (Kd.R_reads' HO794.out).2.1)
    rintro e w70 ⟨rfl, hb⟩
    refine ⟨_, rfl, ?_⟩
    have n0_ := Aside0.mk (Kd.R_below zaf9 hb)
    have n1_ := Aside0.mk (Kd.R_below zaf7 hb)
    have n2_ := Aside0.mk (Kd.R_below zaf13 hb)
    have n3_ := Aside0.mk (blk_below (g := gb762) (o := .cells #[.int .i64 a0_0, .int .i64 a0_1, .slice A0_2 l0_2.length c0_2] 24 (0, 0)) zaf2 hb)
    have n4_ := Aside0.mk (blk_below (g := gb763) (o := .cells #[.int .i64 a1_0, .int .i64 a1_1] 26 (0, 0)) zaf5 hb)
    have n5_ := Aside0.mk (blk_below (g := gb782) (o := .cells #[.int .i64 t777, .int .i64 t778, .slice Ao41 t779.length co41] 30 (0, 0)) zaf8 hb)
    have n6_ := Aside0.mk (below_step zaf1 hb)
    clear HO_11
    clear HO_783002
    clear HO794
    clear BK762
    clear BK763
    clear BK782
    clear HB
    have HO_11 := n0_
    have HO_783002 := n1_
    have HO794 := n2_
    have BK762 := n3_
    have BK763 := n4_
    have BK782 := n5_
    have HB := n6_
    clear n0_ n1_ n2_ n3_ n4_ n5_ n6_
    (try clear hb)
    (try clear hb2)
    (try clear hk)
    (try clear hi)
    (try clear hna_)
    (try clear hnb_)
    refine hK.out _ _ ⟨(blk_cell BK782.out 0).trans rfl, (blk_cell BK782.out 1).trans rfl, (blk_cell BK782.out 2).trans rfl, (blk_cell BK762.out 0).trans rfl, (blk_cell BK762.out 1).trans rfl, (blk_cell BK762.out 2).trans rfl⟩ (fun hHeld => ?_)
    clear hK K
    refine norm_ (a' := ?_) ?_ ?_
    rotate_left
    ·show Act.put _ (some 55) _ = _
     simp only [Act.put, List.setIfInBounds_toArray, List.set_cons_zero, List.set_cons_succ, i64_w, i32_w]
     rfl
    refine pure_ (i := 4) (N := some 56) (v := ?_) (a' := ?_) #[true, true, true, true, true] rfl rfl (by kernel_rfl) (fun _ _ _ h => h) (Or.inl ⟨by rfl, ?_⟩) ?_ ?_
    rotate_left
    ·intro w'
     go_simp
     with_reducible rfl
    rotate_left
    ·simp only [Act.put, List.setIfInBounds_toArray, List.set_cons_zero, List.set_cons_succ, i64_w, i32_w]
     rfl
    refine done_ (by kernel_rfl) ?_
    try go_wp2
    go_ret
    exact ⟨zaf15, zaf1⟩
   subst c51
   have H1 : ((laws_toIntS.f kj21 l2).bind fun t796 => ((laws_eqIntS.f kj21 t783 t796).bind fun t799 => (if t799 = true then (some true) else (some false)))) = some r := by rw [if_pos rfl] at H; exact H
   clear H
   have H := H1
   clear H1
   replace H := Option.bind_eq_some_iff.mp H
   obtain ⟨t796, A520, H⟩ := H
   replace H : ((laws_eqIntS.f kj21 t783 t796).bind fun t799 => (if t799 = true then (some true) else (some false))) = some r := H
   have A52 := Aside0.mk A520
   clear A520
   replace H := Option.bind_eq_some_iff.mp H
   obtain ⟨t799, A530, H⟩ := H
   replace H : (if t799 = true then (some true) else (some false)) = some r := H
   have A53 := Aside0.mk A530
   clear A530
   by_cases c54 : t799 = true
   ·subst c54
    have H1 : (some true) = some r := by rw [if_pos rfl] at H; exact H
    clear H
    have H := H1
    clear H1
    obtain rfl := Option.some.inj H
    try go_wp2
    have n0_ := Aside0.mk (Kd.R_drew HO_11.out)
    have n1_ := Aside0.mk (Kd.R_drew HO_783002.out)
    have n2_ := Aside0.mk (blk_drew BK762.out)
    have n3_ := Aside0.mk (blk_drew BK763.out)
    have n4_ := Aside0.mk (blk_drew BK782.out)
    have n5_ := Aside0.mk (below_drew1 HB.out)
    clear HO_11
    clear HO_783002
    clear BK762
    clear BK763
    clear BK782
    clear HB
    have HO_11 := n0_
    have HO_783002 := n1_
    have BK762 := n2_
    have BK763 := n3_
    have BK782 := n4_
    have HB := n5_
    clear n0_ n1_ n2_ n3_ n4_ n5_
    refine start_ (n := 5) (S := fun w' => w'.cell? ⟨gb782, 0, none⟩ = some (.int .i64 t777) ∧ w'.cell? ⟨gb782, 1, none⟩ = some (.int .i64 t778) ∧ w'.cell? ⟨gb782, 2, none⟩ = some (.slice Ao41 t779.length co41) ∧ w'.cell? ⟨gb762, 0, none⟩ = some (.int .i64 a0_0) ∧ w'.cell? ⟨gb762, 1, none⟩ = some (.int .i64 a0_1) ∧ w'.cell? ⟨gb762, 2, none⟩ = some (.slice A0_2 l0_2.length c0_2)) (ds := []) #[false, false, false, false, false] (by kernel_rfl) rfl rfl ⟨(blk_cell BK782.out 0).trans rfl, (blk_cell BK782.out 1).trans rfl, (blk_cell BK782.out 2).trans rfl, (blk_cell BK762.out 0).trans rfl, (blk_cell BK762.out 1).trans rfl, (blk_cell BK762.out 2).trans rfl⟩ (fun hHeld => ?_)
    generalize wc.drew = w55 at HO_11 HO_783002 BK762 BK763 BK782 HB hHeld ⊢
    refine take_ (i := 0) (N := some 52) (v := ?_) (a' := ?_) #[true, false, false, false, false] rfl rfl (by kernel_rfl) (fun _ _ _ h => h) (Or.inl ⟨by rfl, ?_⟩) hHeld ?_ ?_
    rotate_left
    ·rintro w' ⟨s0, s1, s2, s3, s4, s5⟩
     go_simp
     with_reducible rfl
    rotate_left
    ·simp only [Act.put, List.setIfInBounds_toArray, List.set_cons_zero, List.set_cons_succ, i64_w, i32_w]
     rfl
    refine take_ (i := 1) (N := some 53) (v := ?_) (a' := ?_) #[true, true, false, false, false] rfl rfl (by kernel_rfl) (fun _ _ _ h => h) (Or.inl ⟨by rfl, ?_⟩) hHeld ?_ ?_
    rotate_left
    ·rintro w' ⟨s0, s1, s2, s3, s4, s5⟩
     go_simp
     with_reducible rfl
    rotate_left
    ·simp only [Act.put, List.setIfInBounds_toArray, List.set_cons_zero, List.set_cons_succ, i64_w, i32_w]
     rfl
    refine one_ (i := 2) (N := some 54) #[true, true, true, false, false] rfl rfl (by kernel_rfl) (by decide) (fun K hK => ?_)
    refine goes_ Try.func14 (by kernel_rfl) rfl #[.agg #[.int .i64 a0_0, .int .i64 a0_1, .slice A0_2 l0_2.length c0_2]] (by rfl) rfl rfl zaf4 ?_
    with_reducible refine (laws_toBoard.calls kj21 a0_0 a0_1 _ _ l0_2 t790 t791 t792 _ ?side1 ?side2 A49.out).mono ?_
    (case side1 => exact zaf11)
    (case side2 => exact HC0_2.out)
    rintro e w56 ⟨v793, rfl, ho0, hb⟩
    refine ⟨_, rfl, ?_⟩
    have n0_ := Aside0.mk (Kd.R_elder' zaf9 (Kd.R_base ho0) hb)
    have n1_ := Aside0.mk (Kd.R_elder' zaf7 (Kd.R_base ho0) hb)
    have n2_ := Aside0.mk (Kd.R_lower (Kd.R_new' (Kd.R_new' ho0 (Kd.R_lt zaf9)) (Kd.R_lt zaf7)) (below_size zaf1))
    have n3_ := Aside0.mk (blk_below (g := gb762) (o := .cells #[.int .i64 a0_0, .int .i64 a0_1, .slice A0_2 l0_2.length c0_2] 24 (0, 0)) zaf2 hb)
    have n4_ := Aside0.mk (blk_below (g := gb763) (o := .cells #[.int .i64 a1_0, .int .i64 a1_1] 26 (0, 0)) zaf5 hb)
    have n5_ := Aside0.mk (blk_below (g := gb782) (o := .cells #[.int .i64 t777, .int .i64 t778, .slice Ao41 t779.length co41] 30 (0, 0)) zaf8 hb)
    have n6_ := Aside0.mk (below_step zaf1 hb)
    clear HO_11
    clear HO_783002
    clear BK762
    clear BK763
    clear BK782
    clear HB
    have HO_11 := n0_
    have HO_783002 := n1_
    have HO794 := n2_
    have BK762 := n3_
    have BK763 := n4_
    have BK782 := n5_
    have HB := n6_
    clear n0_ n1_ n2_ n3_ n4_ n5_ n6_
    (try clear hb)
    (try clear hb2)
    (try clear hk)
    (try clear hi)
    (try clear ho0)
    (try clear hna_)
    (try clear hnb_)
    obtain ⟨Ao57, co57, eo57⟩ := Kd.R_slice HO794.out
    (first | subst eo57 | (injection eo57 with f1_ f2_ f3_; have f4_ := f1_.symm; have f5_ := f3_.symm; clear f1_ f2_ f3_; subst f4_; subst f5_))
    refine hK.out _ _ ⟨(blk_cell BK782.out 0).trans rfl, (blk_cell BK782.out 1).trans rfl, (blk_cell BK782.out 2).trans rfl, (blk_cell BK762.out 0).trans rfl, (blk_cell BK762.out 1).trans rfl, (blk_cell BK762.out 2).trans rfl⟩ (fun hHeld => ?_)
    clear hK K
    refine norm_ (a' := ?_) ?_ ?_
    rotate_left
    ·show Act.put _ (some 54) _ = _
     simp only [Act.put, List.setIfInBounds_toArray, List.set_cons_zero, List.set_cons_succ, i64_w, i32_w]
     rfl
    refine one_ (i := 3) (N := some 55) #[true, true, true, true, false] rfl rfl (by kernel_rfl) (by decide) (fun K hK => ?_)
    refine goes_ Try.func19 (by kernel_rfl) rfl #[.agg #[.int .i64 t777, .int .i64 t778, .slice Ao41 t779.length co41], .agg #[.int .i64 t790, .int .i64 t791, .slice Ao57 t792.length co57]] (by rfl) rfl rfl zaf4 ?_
    with_reducible refine (laws_eqBoard.calls kj21 t777 t778 _ _ t779 t790 t791 _ _ t792 true _ ?side1 ?side2 ?side3 ?side4 A50.out).mono ?_
    (case side1 => exact zaf19)
    (case side2 => exact (Kd.R_reads' HO_783002.out).2.1)
    (case side3 => exact zaf20)
    (case side4 => exact (Kd.R_reads' HO794.out).2.1)
    rintro e w58 ⟨rfl, hb⟩
    refine ⟨_, rfl, ?_⟩
    have n0_ := Aside0.mk (Kd.R_below zaf9 hb)
    have n1_ := Aside0.mk (Kd.R_below zaf7 hb)
    have n2_ := Aside0.mk (Kd.R_below zaf13 hb)
    have n3_ := Aside0.mk (blk_below (g := gb762) (o := .cells #[.int .i64 a0_0, .int .i64 a0_1, .slice A0_2 l0_2.length c0_2] 24 (0, 0)) zaf2 hb)
    have n4_ := Aside0.mk (blk_below (g := gb763) (o := .cells #[.int .i64 a1_0, .int .i64 a1_1] 26 (0, 0)) zaf5 hb)
    have n5_ := Aside0.mk (blk_below (g := gb782) (o := .cells #[.int .i64 t777, .int .i64 t778, .slice Ao41 t779.length co41] 30 (0, 0)) zaf8 hb)
    have n6_ := Aside0.mk (below_step zaf1 hb)
    clear HO_11
    clear HO_783002
    clear HO794
    clear BK762
    clear BK763
    clear BK782
    clear HB
    have HO_11 := n0_
    have HO_783002 := n1_
    have HO794 := n2_
    have BK762 := n3_
    have BK763 := n4_
    have BK782 := n5_
    have HB := n6_
    clear n0_ n1_ n2_ n3_ n4_ n5_ n6_
    (try clear hb)
    (try clear hb2)
    (try clear hk)
    (try clear hi)
    (try clear hna_)
    (try clear hnb_)
    refine hK.out _ _ ⟨(blk_cell BK782.out 0).trans rfl, (blk_cell BK782.out 1).trans rfl, (blk_cell BK782.out 2).trans rfl, (blk_cell BK762.out 0).trans rfl, (blk_cell BK762.out 1).trans rfl, (blk_cell BK762.out 2).trans rfl⟩ (fun hHeld => ?_)
    clear hK K
    refine norm_ (a' := ?_) ?_ ?_
    rotate_left
    ·show Act.put _ (some 55) _ = _
     simp only [Act.put, List.setIfInBounds_toArray, List.set_cons_zero, List.set_cons_succ, i64_w, i32_w]
     rfl
    refine pure_ (i := 4) (N := some 56) (v := ?_) (a' := ?_) #[true, true, true, true, true] rfl rfl (by kernel_rfl) (fun _ _ _ h => h) (Or.inl ⟨by rfl, ?_⟩) ?_ ?_
    rotate_left
    ·intro w'
     go_simp
     with_reducible rfl
    rotate_left
    ·simp only [Act.put, List.setIfInBounds_toArray, List.set_cons_zero, List.set_cons_succ, i64_w, i32_w]
     rfl
    refine done_ (by kernel_rfl) ?_
    try go_wp2_with (first | ((with_reducible refine gate_callee (f := 16) rfl ?_); refine goesL_ (some 59) rfl rfl Try.func16 (by kernel_rfl) rfl #[.slice A2 l2.length c2] rfl zaf4 ?_; (with_reducible refine (laws_toIntS.calls kj21 _ _ l2 t796 _ ?side1 ?side2 A52.out).mono ?_); (case side1 => exact zaf21); (case side2 => exact HC2.out); rintro e w59 ⟨v797, rfl, ho0, hb⟩; refine ⟨_, rfl, ?_⟩; have n0_ := Aside0.mk (Kd.R_elder' zaf9 (Kd.R_base ho0) hb); have n1_ := Aside0.mk (Kd.R_elder' zaf7 (Kd.R_base ho0) hb); have n2_ := Aside0.mk (Kd.R_elder' zaf13 (Kd.R_base ho0) hb); have n3_ := Aside0.mk (Kd.R_lower (Kd.R_new' (Kd.R_new' (Kd.R_new' ho0 (Kd.R_lt zaf9)) (Kd.R_lt zaf7)) (Kd.R_lt zaf13)) (below_size zaf1)); have n4_ := Aside0.mk (blk_below (g := gb762) (o := .cells #[.int .i64 a0_0, .int .i64 a0_1, .slice A0_2 l0_2.length c0_2] 24 (0, 0)) zaf2 hb); have n5_ := Aside0.mk (blk_below (g := gb763) (o := .cells #[.int .i64 a1_0, .int .i64 a1_1] 26 (0, 0)) zaf5 hb); have n6_ := Aside0.mk (blk_below (g := gb782) (o := .cells #[.int .i64 t777, .int .i64 t778, .slice Ao41 t779.length co41] 30 (0, 0)) zaf8 hb); have n7_ := Aside0.mk (below_step zaf1 hb); clear HO_11; clear HO_783002; clear HO794; clear BK762; clear BK763; clear BK782; clear HB; have HO_11 := n0_; have HO_783002 := n1_; have HO794 := n2_; have HO798 := n3_; have BK762 := n4_; have BK763 := n5_; have BK782 := n6_; have HB := n7_; clear n0_ n1_ n2_ n3_ n4_ n5_ n6_ n7_; (try clear hb); (try clear hb2); (try clear hk); (try clear hi); (try clear ho0); (try clear hna_); (try clear hnb_); obtain ⟨Ao60, co60, eo60⟩ := Kd.R_slice HO798.out; subst eo60) | ((with_reducible refine gate_callee (f := 18) rfl ?_); refine goesL_ (some 60) rfl rfl Try.func18 (by kernel_rfl) rfl #[.slice Ao45 t783.length co45, .slice Ao60 t796.length co60] rfl zaf4 ?_; (with_reducible refine (laws_eqIntS.calls kj21 _ _ t783 _ _ t796 true _ ?side1 ?side2 ?side3 ?side4 A53.out).mono ?_); (case side1 => exact zaf23); (case side2 => exact (Kd.R_reads' HO_11.out).2.1); (case side3 => exact zaf24); (case side4 => exact (Kd.R_reads' HO798.out).2.1); rintro e w' ⟨rfl, ⟨nd, rfl⟩⟩; refine ⟨_, rfl, ?_⟩))
    go_ret
    exact ⟨zaf15, zaf1⟩
   replace c54 := Bool.eq_false_iff.mpr c54
   subst c54
   have H1 : (some false) = some r := by rw [if_neg (show ¬ (false = true) by decide)] at H; exact H
   clear H
   have H := H1
   clear H1
   obtain rfl := Option.some.inj H
   try go_wp2
   have n0_ := Aside0.mk (Kd.R_drew HO_11.out)
   have n1_ := Aside0.mk (Kd.R_drew HO_783002.out)
   have n2_ := Aside0.mk (blk_drew BK762.out)
   have n3_ := Aside0.mk (blk_drew BK763.out)
   have n4_ := Aside0.mk (blk_drew BK782.out)
   have n5_ := Aside0.mk (below_drew1 HB.out)
   clear HO_11
   clear HO_783002
   clear BK762
   clear BK763
   clear BK782
   clear HB
   have HO_11 := n0_
   have HO_783002 := n1_
   have BK762 := n2_
   have BK763 := n3_
   have BK782 := n4_
   have HB := n5_
   clear n0_ n1_ n2_ n3_ n4_ n5_
   refine start_ (n := 5) (S := fun w' => w'.cell? ⟨gb782, 0, none⟩ = some (.int .i64 t777) ∧ w'.cell? ⟨gb782, 1, none⟩ = some (.int .i64 t778) ∧ w'.cell? ⟨gb782, 2, none⟩ = some (.slice Ao41 t779.length co41) ∧ w'.cell? ⟨gb762, 0, none⟩ = some (.int .i64 a0_0) ∧ w'.cell? ⟨gb762, 1, none⟩ = some (.int .i64 a0_1) ∧ w'.cell? ⟨gb762, 2, none⟩ = some (.slice A0_2 l0_2.length c0_2)) (ds := []) #[false, false, false, false, false] (by kernel_rfl) rfl rfl ⟨(blk_cell BK782.out 0).trans rfl, (blk_cell BK782.out 1).trans rfl, (blk_cell BK782.out 2).trans rfl, (blk_cell BK762.out 0).trans rfl, (blk_cell BK762.out 1).trans rfl, (blk_cell BK762.out 2).trans rfl⟩ (fun hHeld => ?_)
   generalize wc.drew = w61 at HO_11 HO_783002 BK762 BK763 BK782 HB hHeld ⊢
   refine take_ (i := 0) (N := some 52) (v := ?_) (a' := ?_) #[true, false, false, false, false] rfl rfl (by kernel_rfl) (fun _ _ _ h => h) (Or.inl ⟨by rfl, ?_⟩) hHeld ?_ ?_
   rotate_left
   ·rintro w' ⟨s0, s1, s2, s3, s4, s5⟩
    go_simp
    with_reducible rfl
   rotate_left
   ·simp only [Act.put, List.setIfInBounds_toArray, List.set_cons_zero, List.set_cons_succ, i64_w, i32_w]
    rfl
   refine take_ (i := 1) (N := some 53) (v := ?_) (a' := ?_) #[true, true, false, false, false] rfl rfl (by kernel_rfl) (fun _ _ _ h => h) (Or.inl ⟨by rfl, ?_⟩) hHeld ?_ ?_
   rotate_left
   ·rintro w' ⟨s0, s1, s2, s3, s4, s5⟩
    go_simp
    with_reducible rfl
   rotate_left
   ·simp only [Act.put, List.setIfInBounds_toArray, List.set_cons_zero, List.set_cons_succ, i64_w, i32_w]
    rfl
   refine one_ (i := 2) (N := some 54) #[true, true, true, false, false] rfl rfl (by kernel_rfl) (by decide) (fun K hK => ?_)
   refine goes_ Try.func14 (by kernel_rfl) rfl #[.agg #[.int .i64 a0_0, .int .i64 a0_1, .slice A0_2 l0_2.length c0_2]] (by rfl) rfl rfl zaf4 ?_
   with_reducible refine (laws_toBoard.calls kj21 a0_0 a0_1 _ _ l0_2 t790 t791 t792 _ ?side1 ?side2 A49.out).mono ?_
   (case side1 => exact zaf11)
   (case side2 => exact HC0_2.out)
   rintro e w62 ⟨v793, rfl, ho0, hb⟩
   refine ⟨_, rfl, ?_⟩
   have n0_ := Aside0.mk (Kd.R_elder' zaf9 (Kd.R_base ho0) hb)
   have n1_ := Aside0.mk (Kd.R_elder' zaf7 (Kd.R_base ho0) hb)
   have n2_ := Aside0.mk (Kd.R_lower (Kd.R_new' (Kd.R_new' ho0 (Kd.R_lt zaf9)) (Kd.R_lt zaf7)) (below_size zaf1))
   have n3_ := Aside0.mk (blk_below (g := gb762) (o := .cells #[.int .i64 a0_0, .int .i64 a0_1, .slice A0_2 l0_2.length c0_2] 24 (0, 0)) zaf2 hb)
   have n4_ := Aside0.mk (blk_below (g := gb763) (o := .cells #[.int .i64 a1_0, .int .i64 a1_1] 26 (0, 0)) zaf5 hb)
   have n5_ := Aside0.mk (blk_below (g := gb782) (o := .cells #[.int .i64 t777, .int .i64 t778, .slice Ao41 t779.length co41] 30 (0, 0)) zaf8 hb)
   have n6_ := Aside0.mk (below_step zaf1 hb)
   clear HO_11
   clear HO_783002
   clear BK762
   clear BK763
   clear BK782
   clear HB
   have HO_11 := n0_
   have HO_783002 := n1_
   have HO794 := n2_
   have BK762 := n3_
   have BK763 := n4_
   have BK782 := n5_
   have HB := n6_
   clear n0_ n1_ n2_ n3_ n4_ n5_ n6_
   (try clear hb)
   (try clear hb2)
   (try clear hk)
   (try clear hi)
   (try clear ho0)
   (try clear hna_)
   (try clear hnb_)
   obtain ⟨Ao63, co63, eo63⟩ := Kd.R_slice HO794.out
   (first | subst eo63 | (injection eo63 with f1_ f2_ f3_; have f4_ := f1_.symm; have f5_ := f3_.symm; clear f1_ f2_ f3_; subst f4_; subst f5_))
   refine hK.out _ _ ⟨(blk_cell BK782.out 0).trans rfl, (blk_cell BK782.out 1).trans rfl, (blk_cell BK782.out 2).trans rfl, (blk_cell BK762.out 0).trans rfl, (blk_cell BK762.out 1).trans rfl, (blk_cell BK762.out 2).trans rfl⟩ (fun hHeld => ?_)
   clear hK K
   refine norm_ (a' := ?_) ?_ ?_
   rotate_left
   ·show Act.put _ (some 54) _ = _
    simp only [Act.put, List.setIfInBounds_toArray, List.set_cons_zero, List.set_cons_succ, i64_w, i32_w]
    rfl
   refine one_ (i := 3) (N := some 55) #[true, true, true, true, false] rfl rfl (by kernel_rfl) (by decide) (fun K hK => ?_)
   refine goes_ Try.func19 (by kernel_rfl) rfl #[.agg #[.int .i64 t777, .int .i64 t778, .slice Ao41 t779.length co41], .agg #[.int .i64 t790, .int .i64 t791, .slice Ao63 t792.length co63]] (by rfl) rfl rfl zaf4 ?_
   with_reducible refine (laws_eqBoard.calls kj21 t777 t778 _ _ t779 t790 t791 _ _ t792 true _ ?side1 ?side2 ?side3 ?side4 A50.out).mono ?_
   (case side1 => exact zaf19)
   (case side2 => exact (Kd.R_reads' HO_783002.out).2.1)
   (case side3 => exact zaf20)
   (case side4 => exact (Kd.R_reads' HO794.out).2.1)
   rintro e w64 ⟨rfl, hb⟩
   refine ⟨_, rfl, ?_⟩
   have n0_ := Aside0.mk (Kd.R_below zaf9 hb)
   have n1_ := Aside0.mk (Kd.R_below zaf7 hb)
   have n2_ := Aside0.mk (Kd.R_below zaf13 hb)
   have n3_ := Aside0.mk (blk_below (g := gb762) (o := .cells #[.int .i64 a0_0, .int .i64 a0_1, .slice A0_2 l0_2.length c0_2] 24 (0, 0)) zaf2 hb)
   have n4_ := Aside0.mk (blk_below (g := gb763) (o := .cells #[.int .i64 a1_0, .int .i64 a1_1] 26 (0, 0)) zaf5 hb)
   have n5_ := Aside0.mk (blk_below (g := gb782) (o := .cells #[.int .i64 t777, .int .i64 t778, .slice Ao41 t779.length co41] 30 (0, 0)) zaf8 hb)
   have n6_ := Aside0.mk (below_step zaf1 hb)
   clear HO_11
   clear HO_783002
   clear HO794
   clear BK762
   clear BK763
   clear BK782
   clear HB
   have HO_11 := n0_
   have HO_783002 := n1_
   have HO794 := n2_
   have BK762 := n3_
   have BK763 := n4_
   have BK782 := n5_
   have HB := n6_
   clear n0_ n1_ n2_ n3_ n4_ n5_ n6_
   (try clear hb)
   (try clear hb2)
   (try clear hk)
   (try clear hi)
   (try clear hna_)
   (try clear hnb_)
   refine hK.out _ _ ⟨(blk_cell BK782.out 0).trans rfl, (blk_cell BK782.out 1).trans rfl, (blk_cell BK782.out 2).trans rfl, (blk_cell BK762.out 0).trans rfl, (blk_cell BK762.out 1).trans rfl, (blk_cell BK762.out 2).trans rfl⟩ (fun hHeld => ?_)
   clear hK K
   refine norm_ (a' := ?_) ?_ ?_
   rotate_left
   ·show Act.put _ (some 55) _ = _
    simp only [Act.put, List.setIfInBounds_toArray, List.set_cons_zero, List.set_cons_succ, i64_w, i32_w]
    rfl
   refine pure_ (i := 4) (N := some 56) (v := ?_) (a' := ?_) #[true, true, true, true, true] rfl rfl (by kernel_rfl) (fun _ _ _ h => h) (Or.inl ⟨by rfl, ?_⟩) ?_ ?_
   rotate_left
   ·intro w'
    go_simp
    with_reducible rfl
   rotate_left
   ·simp only [Act.put, List.setIfInBounds_toArray, List.set_cons_zero, List.set_cons_succ, i64_w, i32_w]
    rfl
   refine done_ (by kernel_rfl) ?_
   try go_wp2_with (first | ((with_reducible refine gate_callee (f := 16) rfl ?_); refine goesL_ (some 59) rfl rfl Try.func16 (by kernel_rfl) rfl #[.slice A2 l2.length c2] rfl zaf4 ?_; (with_reducible refine (laws_toIntS.calls kj21 _ _ l2 t796 _ ?side1 ?side2 A52.out).mono ?_); (case side1 => exact zaf21); (case side2 => exact HC2.out); rintro e w65 ⟨v797, rfl, ho0, hb⟩; refine ⟨_, rfl, ?_⟩; have n0_ := Aside0.mk (Kd.R_elder' zaf9 (Kd.R_base ho0) hb); have n1_ := Aside0.mk (Kd.R_elder' zaf7 (Kd.R_base ho0) hb); have n2_ := Aside0.mk (Kd.R_elder' zaf13 (Kd.R_base ho0) hb); have n3_ := Aside0.mk (Kd.R_lower (Kd.R_new' (Kd.R_new' (Kd.R_new' ho0 (Kd.R_lt zaf9)) (Kd.R_lt zaf7)) (Kd.R_lt zaf13)) (below_size zaf1)); have n4_ := Aside0.mk (blk_below (g := gb762) (o := .cells #[.int .i64 a0_0, .int .i64 a0_1, .slice A0_2 l0_2.length c0_2] 24 (0, 0)) zaf2 hb); have n5_ := Aside0.mk (blk_below (g := gb763) (o := .cells #[.int .i64 a1_0, .int .i64 a1_1] 26 (0, 0)) zaf5 hb); have n6_ := Aside0.mk (blk_below (g := gb782) (o := .cells #[.int .i64 t777, .int .i64 t778, .slice Ao41 t779.length co41] 30 (0, 0)) zaf8 hb); have n7_ := Aside0.mk (below_step zaf1 hb); clear HO_11; clear HO_783002; clear HO794; clear BK762; clear BK763; clear BK782; clear HB; have HO_11 := n0_; have HO_783002 := n1_; have HO794 := n2_; have HO798 := n3_; have BK762 := n4_; have BK763 := n5_; have BK782 := n6_; have HB := n7_; clear n0_ n1_ n2_ n3_ n4_ n5_ n6_ n7_; (try clear hb); (try clear hb2); (try clear hk); (try clear hi); (try clear ho0); (try clear hna_); (try clear hnb_); obtain ⟨Ao66, co66, eo66⟩ := Kd.R_slice HO798.out; subst eo66) | ((with_reducible refine gate_callee (f := 18) rfl ?_); refine goesL_ (some 60) rfl rfl Try.func18 (by kernel_rfl) rfl #[.slice Ao45 t783.length co45, .slice Ao66 t796.length co66] rfl zaf4 ?_; (with_reducible refine (laws_eqIntS.calls kj21 _ _ t783 _ _ t796 false _ ?side1 ?side2 ?side3 ?side4 A53.out).mono ?_); (case side1 => exact zaf23); (case side2 => exact (Kd.R_reads' HO_11.out).2.1); (case side3 => exact zaf24); (case side4 => exact (Kd.R_reads' HO798.out).2.1); rintro e w' ⟨rfl, ⟨nd, rfl⟩⟩; refine ⟨_, rfl, ?_⟩))
   go_ret
   exact ⟨zaf15, zaf1⟩

end Go.Proofs.Ytbecdckdbeoomaa.Q

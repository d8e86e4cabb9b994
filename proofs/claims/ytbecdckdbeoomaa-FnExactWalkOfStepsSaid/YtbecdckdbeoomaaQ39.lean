/- Written by a program of this session: functions of the translation as plain Lean functions, each with a proof that the call does what the plain function says; the conditions stand in each theorem. -/
import Derived.Test.YtbecdckdbeoomaaQ0
import Derived.Test.YtbecdckdbeoomaaQ1
import Derived.Test.YtbecdckdbeoomaaQ2
import Derived.Test.YtbecdckdbeoomaaQ5
import Derived.Test.YtbecdckdbeoomaaQ16
import Derived.Test.YtbecdckdbeoomaaQ36
import Derived.Test.YtbecdckdbeoomaaQ38
namespace Go.Proofs.Ytbecdckdbeoomaa.Q
open Go.RowKit Go.Proofs.YtbecdckdbeoomaaW.PrintWords Go.Proofs.YtbecdckdbeoomaaW.PrintLast Go.Proofs.YtbecdckdbeoomaaW.PrintMore
attribute [local go_sem] max2_int min2_int max_two min_two max_three min_three max_four min_four   -- for this text's walks alone
set_option linter.unusedVariables false
set_option linter.unusedSimpArgs false

theorem zan1 {p : Prop} (h : p := by repeat (first | (with_reducible first | exact HB.out | apply below_alloc | apply pw_below_drewN | apply below_drew1 | refine below_set ?_ GE980.out | refine below_set ?_ GE981.out | refine below_set ?_ GE1002.out) | exact HB.out)) : p := h
theorem zan2 {p : Prop} (h : p := by first | exact BK980.out | ((with_reducible repeat (first | refine blk_drewN ?_ _ | refine blk_drew ?_ | refine blk_alloc ?_ _)); exact BK980.out)) : p := h
theorem zan3 {p : Prop} (h : p := by (try simp only [List.map_toArray, List.map_cons, List.map_nil]); first | done | rfl | (simp only [List.length_drop, List.length_take]; rfl)) : p := h
theorem zan4 {p : Prop} (h : p := by first | exact BK981.out | ((with_reducible repeat (first | refine blk_drewN ?_ _ | refine blk_drew ?_ | refine blk_alloc ?_ _)); exact BK981.out)) : p := h
theorem zan5 {p : Prop} (h : p := by repeat (first | (with_reducible first | exact HB.out | apply below_alloc | apply pw_below_drewN | apply below_drew1 | refine below_set ?_ GE980.out | refine below_set ?_ GE981.out) | exact HB.out)) : p := h
theorem zan6 {p : Prop} (h : p := by first | exact BK1002.out | ((with_reducible repeat (first | refine blk_drewN ?_ _ | refine blk_drew ?_ | refine blk_alloc ?_ _)); exact BK1002.out)) : p := h
theorem zan7 {p : Prop} (h : p := by first | exact HO_1003002.out | ((with_reducible repeat (first | apply Kd.R_alloc | apply Kd.R_drewN | apply Kd.R_drew)); exact HO_1003002.out)) : p := h
theorem zan8 {p : Prop} (h : p := by first | exact HO_14.out | ((with_reducible repeat (first | apply Kd.R_alloc | apply Kd.R_drewN | apply Kd.R_drew)); exact HO_14.out)) : p := h
theorem zan9 {p : Prop} (h : p := by first | exact HO_10.out | ((with_reducible repeat (first | apply Kd.R_alloc | apply Kd.R_drewN | apply Kd.R_drew)); exact HO_10.out)) : p := h
theorem zan10 {p : Prop} (h : p := by repeat (first | (with_reducible first | exact HB.out | apply below_alloc | apply pw_below_drewN | apply below_drew1 | refine below_set ?_ GE980.out) | exact HB.out)) : p := h
theorem zan11 {p : Prop} (h : p := by first | exact HO_13.out | ((with_reducible repeat (first | apply Kd.R_alloc | apply Kd.R_drewN | apply Kd.R_drew)); exact HO_13.out)) : p := h
theorem zan12 {p : Prop} (h : p := by repeat (first | exact (Kd.C_below HR0_2.out HB.out) | (with_reducible refine Kd.C_alloc ?_ _) | (with_reducible refine Kd.C_drewN ?_ _) | (with_reducible refine Kd.C_drew ?_))) : p := h
theorem zan13 {p : Prop} (h : p := by repeat (first | exact (Kd.R_reads' HO_14.out).2.2 | (with_reducible refine Kd.C_alloc ?_ _) | (with_reducible refine Kd.C_drewN ?_ _) | (with_reducible refine Kd.C_drew ?_))) : p := h
theorem zan14 {p : Prop} (h : p := by repeat (first | (with_reducible first | exact HB.out | apply below_alloc | apply pw_below_drewN | apply below_drew1) | exact HB.out)) : p := h
theorem zan15 {p : Prop} (h : p := by first | exact HO987.out | ((with_reducible repeat (first | apply Kd.R_alloc | apply Kd.R_drewN | apply Kd.R_drew)); exact HO987.out)) : p := h
theorem zan16 {p : Prop} (h : p := by first | rfl | (simp [errW_none, errW_some] <;> rfl) | (simp [*, errW_none, errW_some] <;> rfl)) : p := h
theorem zan17 {p : Prop} (h : p := by first | exact HO992.out | ((with_reducible repeat (first | apply Kd.R_alloc | apply Kd.R_drewN | apply Kd.R_drew)); exact HO992.out)) : p := h
theorem zan18 {p : Prop} (h : p := by first | exact HO1017.out | ((with_reducible repeat (first | apply Kd.R_alloc | apply Kd.R_drewN | apply Kd.R_drew)); exact HO1017.out)) : p := h
theorem zan19 {p : Prop} (h : p := by first | exact HO995.out | ((with_reducible repeat (first | apply Kd.R_alloc | apply Kd.R_drewN | apply Kd.R_drew)); exact HO995.out)) : p := h
theorem zan20 {p : Prop} (h : p := by repeat (first | exact (Kd.R_reads' HO_10.out).2.2 | (with_reducible refine Kd.C_alloc ?_ _) | (with_reducible refine Kd.C_drewN ?_ _) | (with_reducible refine Kd.C_drew ?_))) : p := h
theorem zan21 {p : Prop} (h : p := by repeat (first | exact (Kd.C_below HR3.out HB.out) | (with_reducible refine Kd.C_alloc ?_ _) | (with_reducible refine Kd.C_drewN ?_ _) | (with_reducible refine Kd.C_drew ?_))) : p := h
theorem zan22 {p : Prop} (h : p := by (try simp only [List.map_toArray, List.map_cons, List.map_nil]); first | done | (rw [show t1029.length = t1008.length from (Kd.R_reads' HO_14.out).1.symm] <;> rfl) | rfl | (simp only [List.length_drop, List.length_take]; rfl)) : p := h
theorem zan23 {p : Prop} (h : p := by (with_reducible repeat (first | apply Kd.R_alloc | apply Kd.R_drewN | apply Kd.R_drew)); exact (Kd.R_mono (Kd.R_far (p := ⟨gb1002, 2, none⟩) (Kd.R_far (p := ⟨gb1002, 1, none⟩) (Kd.R_far (p := ⟨gb1002, 0, none⟩) (Kd.R_types HO1001.out BK1002.out (by decide)) (fun _ hk => hk.2) (.int .i64 t997)) (fun _ hk => hk.2) (.int .i64 t998)) (fun _ hk => hk.2) (.slice Ao42 t999.length co42)) (fun _ h_ => h_.1))) : p := h
theorem zan24 {p : Prop} (h : p := by (with_reducible repeat (first | apply Kd.R_alloc | apply Kd.R_drewN | apply Kd.R_drew)); exact (Kd.R_mono (Kd.R_far (p := ⟨gb1002, 2, none⟩) (Kd.R_far (p := ⟨gb1002, 1, none⟩) (Kd.R_far (p := ⟨gb1002, 0, none⟩) (Kd.R_types HO995.out BK1002.out (by decide)) (fun _ hk => hk.2) (.int .i64 t997)) (fun _ hk => hk.2) (.int .i64 t998)) (fun _ hk => hk.2) (.slice Ao42 t999.length co42)) (fun _ h_ => h_.1))) : p := h
theorem zan25 {p : Prop} (h : p := by (with_reducible repeat (first | apply Kd.R_alloc | apply Kd.R_drewN | apply Kd.R_drew)); exact (Kd.R_mono (Kd.R_far (p := ⟨gb1002, 2, none⟩) (Kd.R_far (p := ⟨gb1002, 1, none⟩) (Kd.R_far (p := ⟨gb1002, 0, none⟩) (Kd.R_types HO992.out BK1002.out (by decide)) (fun _ hk => hk.2) (.int .i64 t997)) (fun _ hk => hk.2) (.int .i64 t998)) (fun _ hk => hk.2) (.slice Ao42 t999.length co42)) (fun _ h_ => h_.1))) : p := h
theorem zan26 {p : Prop} (h : p := by (with_reducible repeat (first | apply Kd.R_alloc | apply Kd.R_drewN | apply Kd.R_drew)); exact (Kd.R_mono (Kd.R_far (p := ⟨gb1002, 2, none⟩) (Kd.R_far (p := ⟨gb1002, 1, none⟩) (Kd.R_far (p := ⟨gb1002, 0, none⟩) (Kd.R_types HO987.out BK1002.out (by decide)) (fun _ hk => hk.2) (.int .i64 t997)) (fun _ hk => hk.2) (.int .i64 t998)) (fun _ hk => hk.2) (.slice Ao42 t999.length co42)) (fun _ h_ => h_.1))) : p := h
theorem zan27 {p : Prop} (h : p := by first | exact HO1035.out | ((with_reducible repeat (first | apply Kd.R_alloc | apply Kd.R_drewN | apply Kd.R_drew)); exact HO1035.out)) : p := h
theorem zan28 {p : Prop} (h : p := by repeat (first | exact (Kd.R_reads' HO_1003002.out).2.2 | (with_reducible refine Kd.C_alloc ?_ _) | (with_reducible refine Kd.C_drewN ?_ _) | (with_reducible refine Kd.C_drew ?_))) : p := h
theorem zan29 {p : Prop} (h : p := by repeat (first | exact (Kd.R_reads' HO1017.out).2.2 | (with_reducible refine Kd.C_alloc ?_ _) | (with_reducible refine Kd.C_drewN ?_ _) | (with_reducible refine Kd.C_drew ?_))) : p := h
theorem zan30 {p : Prop} (h : p := by first | exact HO1001.out | ((with_reducible repeat (first | apply Kd.R_alloc | apply Kd.R_drewN | apply Kd.R_drew)); exact HO1001.out)) : p := h
theorem zan31 {p : Prop} (h : p := by (with_reducible repeat (first | apply Kd.R_alloc | apply Kd.R_drewN | apply Kd.R_drew)); exact Kd.R_mono HO_1003002.out (fun _ hk => ⟨hk.1, hk.2.2.1⟩)) : p := h
theorem zan32 {p : Prop} (h : p := by (with_reducible repeat (first | apply Kd.R_alloc | apply Kd.R_drewN | apply Kd.R_drew)); exact Kd.R_mono HO_10.out (fun _ hk => ⟨hk.2.1, hk.2.2.1⟩)) : p := h
theorem zan33 {p : Prop} (h : p := by (with_reducible repeat (first | apply Kd.R_alloc | apply Kd.R_drewN | apply Kd.R_drew)); exact Kd.R_mono HO_14.out (fun _ hk => ⟨hk.1, hk.2.2.1⟩)) : p := h
theorem zan34 {p : Prop} (h : p := by first | rfl | (simp; done) | (simp [*]; done)) : p := h
theorem zan35 {p : Prop} (h : p := by first | exact HO1005.out | ((with_reducible repeat (first | apply Kd.R_alloc | apply Kd.R_drewN | apply Kd.R_drew)); exact HO1005.out)) : p := h
theorem zan36 {p : Prop} (h : p := by rw [show t1029.length = t1008.length from (Kd.R_reads' HO_14.out).1.symm]; exact (Kd.R_reads' HO_14.out).2.1) : p := h
theorem zan37 {p : Prop} (h : p := by (try simp only [hl1003002_62]); (with_reducible repeat (first | apply Kd.R_alloc | apply Kd.R_drewN | apply Kd.R_drew)); exact Kd.R_mono HO_1003002.out (fun _ hk => hk.1.1.1.2)) : p := h
theorem zan38 {p : Prop} (h : p := by (try simp only [hl1003002_62]); (with_reducible repeat (first | apply Kd.R_alloc | apply Kd.R_drewN | apply Kd.R_drew)); exact Kd.R_mono HO_14.out (fun _ hk => hk.1.1.1.2)) : p := h
theorem zan39 {p : Prop} (h : p := by (with_reducible repeat (first | apply Kd.R_alloc | apply Kd.R_drewN | apply Kd.R_drew)); exact Kd.R_mono HO1010.out (fun _ hk => ⟨hk.1.1.2, ⟨hk.2, hk.1.2⟩⟩)) : p := h
theorem zan40 {p : Prop} (h : p := by (with_reducible repeat (first | apply Kd.R_alloc | apply Kd.R_drewN | apply Kd.R_drew)); exact Kd.R_mono HO1005.out (fun _ hk => ⟨hk.1.1.2, ⟨hk.2, hk.1.2⟩⟩)) : p := h
theorem zan41 {p : Prop} (h : p := by (with_reducible repeat (first | apply Kd.R_alloc | apply Kd.R_drewN | apply Kd.R_drew)); exact Kd.R_mono HO1001.out (fun _ hk => ⟨hk.1.1.2, ⟨hk.1.2, hk.2⟩⟩)) : p := h
theorem zan42 {p : Prop} (h : p := by (with_reducible repeat (first | apply Kd.R_alloc | apply Kd.R_drewN | apply Kd.R_drew)); exact Kd.R_mono HO995.out (fun _ hk => ⟨hk.1.2, ⟨hk.2, hk.1.1.2⟩⟩)) : p := h
theorem zan43 {p : Prop} (h : p := by repeat (first | exact (Kd.R_reads' HO1043.out).2.2 | (with_reducible refine Kd.C_alloc ?_ _) | (with_reducible refine Kd.C_drewN ?_ _) | (with_reducible refine Kd.C_drew ?_))) : p := h
theorem zan44 {p : Prop} (h : p := by repeat (first | exact (Kd.R_reads' HO1021.out).2.2 | (with_reducible refine Kd.C_alloc ?_ _) | (with_reducible refine Kd.C_drewN ?_ _) | (with_reducible refine Kd.C_drew ?_))) : p := h
theorem zan45 {p : Prop} (h : p := by repeat (first | exact (Kd.R_reads' HO1010.out).2.2 | (with_reducible refine Kd.C_alloc ?_ _) | (with_reducible refine Kd.C_drewN ?_ _) | (with_reducible refine Kd.C_drew ?_))) : p := h
theorem zan46 {p : Prop} (h : p := by repeat (first | exact (Kd.R_reads' HO_13.out).2.2 | (with_reducible refine Kd.C_alloc ?_ _) | (with_reducible refine Kd.C_drewN ?_ _) | (with_reducible refine Kd.C_drew ?_))) : p := h
theorem zan47 {p : Prop} (h : p := by repeat (first | exact (Kd.R_reads' HO995.out).2.2 | (with_reducible refine Kd.C_alloc ?_ _) | (with_reducible refine Kd.C_drewN ?_ _) | (with_reducible refine Kd.C_drew ?_))) : p := h
theorem zan48 {p : Prop} (h : p := by (try simp only [hl1003002_62]); first | exact BK1002.out | ((with_reducible repeat (first | refine blk_drewN ?_ _ | refine blk_drew ?_ | refine blk_alloc ?_ _)); exact BK1002.out)) : p := h
theorem zan49 {p : Prop} (h : p := by (try simp only [hl1003002_62]); first | exact BK981.out | ((with_reducible repeat (first | refine blk_drewN ?_ _ | refine blk_drew ?_ | refine blk_alloc ?_ _)); exact BK981.out)) : p := h
theorem zan50 {p : Prop} (h : p := by (try simp only [hl1003002_62]); first | exact BK980.out | ((with_reducible repeat (first | refine blk_drewN ?_ _ | refine blk_drew ?_ | refine blk_alloc ?_ _)); exact BK980.out)) : p := h
theorem zan51 {p : Prop} (h : p := by rw [hg]; exact Nat.ne_of_lt (blk_lt (g := gb980) (o := .cells #[.int .i64 a0_0, .int .i64 a0_1, .slice A0_2 l0_2.length c0_2] 24 (0, 0)) zan2)) : p := h
theorem zan52 {p : Prop} (h : p := by rw [hg]; exact Nat.ne_of_gt (blk_lt (g := gb980) (o := .cells #[.int .i64 a0_0, .int .i64 a0_1, .slice A0_2 l0_2.length c0_2] 24 (0, 0)) zan2)) : p := h
theorem zan53 {p : Prop} (h : p := by rw [hg]; exact (below_size zan14)) : p := h
theorem zan54 {p : Prop} (h : p := by rw [hg]; exact (below_size zan10)) : p := h
/-! ### laws_FnExactWalkOfSteps: function 8 -/
mutual
def laws_FnExactWalkOfSteps.j0 : Nat → Int → List Int → List Int → Bool → List Int → List Int → Bool → Bool → Int → Int → List Int → Int → Int → Int → Int → List Int → Option (Bool)
 | 0, _, _, _, _, _, _, _, _, _, _, _, _, _, _, _, _ => none
 | k + 1, x2, x3, x10, x11, x13, x14, x15, x61, x981000, x981001, x981002, x982000, x982001, x1003000, x1003001, x1003002 => if x61 = true then (some false) else ((laws_toBoard.f k x981000 x981001 x981002).bind fun bt1013 => ((laws_eqBoard.f k x1003000 x1003001 x1003002 bt1013.1 bt1013.2.1 bt1013.2.2).bind fun t1018 => (if t1018 = true then ((laws_toIntS.f k x3).bind fun t1019 => ((laws_eqIntS.f k x13 t1019).bind fun t1022 => (if t1022 = true then ((laws_markBoard.f k x1003000 x1003001 x1003002 1).bind fun bt1023 => ((laws_markIntS.f k x13 bt1023.1).bind fun bt1025 => (if bt1025.1 < 0 then (laws_FnExactWalkOfSteps.j1 k x2 x3 x10 x11 x14 true x981000 x981001 x981002 x982000 x982001) else ((laws_eqIntS.f k x14 x10).bind fun t1027 => (if t1027 = true then (laws_FnExactWalkOfSteps.j1 k x2 x3 x10 x11 x14 (x15 != x11) x981000 x981001 x981002 x982000 x982001) else (laws_FnExactWalkOfSteps.j1 k x2 x3 x10 x11 x14 true x981000 x981001 x981002 x982000 x982001)))))) else (some false)))) else (some false))))
def laws_FnExactWalkOfSteps.j1 : Nat → Int → List Int → List Int → Bool → List Int → Bool → Int → Int → List Int → Int → Int → Option (Bool)
 | 0, _, _, _, _, _, _, _, _, _, _, _ => none
 | k + 1, x2, x3, x10, x11, x14, x90, x981000, x981001, x981002, x982000, x982001 => if x90 = true then (some false) else ((laws_markIntS.f k x14 1).bind fun bt1028 => ((laws_heldIntS.f k bt1028.2 1).bind fun t1030 => (if t1030 < 0 then (some false) else (if t1030 = bt1028.1 then ((laws_toBoard.f k x981000 x981001 x981002).bind fun bt1031 => ((laws_toLeaper.f x982000 x982001).bind fun bt1036 => ((laws_toIntS.f k x3).bind fun t1038 => ((impl_WalkOfSteps.f k bt1031.1 bt1031.2.1 bt1031.2.2 bt1036.1 bt1036.2 x2 t1038).bind fun bt1041 => ((laws_eqIntS.f k bt1041.1 x10).bind fun t1045 => (if t1045 = true then (laws_FnExactWalkOfSteps.j2 k bt1028.2 bt1028.1 (bt1041.2 != x11)) else (laws_FnExactWalkOfSteps.j2 k bt1028.2 bt1028.1 true))))))) else (some false)))))
def laws_FnExactWalkOfSteps.j2 : Nat → List Int → Int → Bool → Option (Bool)
 | 0, _, _, _ => none
 | k + 1, x14, x17, x121 => if x121 = true then (some false) else ((laws_heldIntS.f k x14 1).bind fun t1046 => (if t1046 < 0 then (some false) else (if t1046 = x17 then (some true) else (some false))))
end
def laws_FnExactWalkOfSteps.f (k : Nat) (a0_0 : Int) (a0_1 : Int) (l0_2 : List Int) (a1_0 : Int) (a1_1 : Int) (a2 : Int) (l3 : List Int) : Option (Bool) := if (l3.length : Int) > 1048576 then (some true) else ((laws_szBoard.f a0_0 a0_1 l0_2 1048576).bind fun t982 => (if t982 < 0 then (some true) else ((laws_toBoard.f k a0_0 a0_1 l0_2).bind fun bt983 => ((laws_toLeaper.f a1_0 a1_1).bind fun bt988 => ((laws_toIntS.f k l3).bind fun t990 => ((spec_WalkOfSteps.f k bt983.1 bt983.2.1 bt983.2.2 bt988.1 bt988.2 a2 t990).bind fun bt993 => ((laws_toBoard.f k a0_0 a0_1 l0_2).bind fun bt997 => ((laws_toIntS.f k l3).bind fun t1003 => ((laws_toLeaper.f a1_0 a1_1).bind fun bt1006 => ((impl_WalkOfSteps.f k bt997.1 bt997.2.1 bt997.2.2 bt1006.1 bt1006.2 a2 t1003).bind fun bt1008 => ((laws_eqIntS.f k bt1008.1 bt993.1).bind fun t1012 => (if t1012 = true then (laws_FnExactWalkOfSteps.j0 k a2 l3 bt993.1 bt993.2 t1003 bt1008.1 bt1008.2 (bt1008.2 != bt993.2) a0_0 a0_1 l0_2 a1_0 a1_1 bt997.1 bt997.2.1 bt997.2.2) else (laws_FnExactWalkOfSteps.j0 k a2 l3 bt993.1 bt993.2 t1003 bt1008.1 bt1008.2 true a0_0 a0_1 l0_2 a1_0 a1_1 bt997.1 bt997.2.1 bt997.2.2)))))))))))))
def laws_FnExactWalkOfSteps.T7 : Bool × List (List Nat × List Nat) := (true, [([], []), ([0], [0]), ([], []), ([2, 1], [2]), ([], []), ([], []), ([5, 3], [5]), ([1, 3, 4, 6, 6], [1, 3, 4, 6]), ([7], [7]), ([8], [8]), ([8], [8]), ([9, 7, 0, 1, 2, 3, 4, 5, 6, 7, 8, 9], [9]), ([10, 11, 0, 1, 2, 3, 4, 5, 6, 7, 8, 9, 10, 11], [10])])
def laws_FnExactWalkOfSteps.B7 : List Nat := [0, 1, 0, 7, 0, 0, 47, 127, 255, 511, 511, 1023, 4095]
theorem laws_FnExactWalkOfSteps.tab7 : rtab .any (opsOf Try.f8 7) = laws_FnExactWalkOfSteps.T7 := by kernel_rfl
theorem laws_FnExactWalkOfSteps.bits7 : waitsOk laws_FnExactWalkOfSteps.T7.2 laws_FnExactWalkOfSteps.B7 = true := by kernel_rfl
def laws_FnExactWalkOfSteps.T10 : Bool × List (List Nat × List Nat) := (true, [([], []), ([], []), ([1], [1]), ([], []), ([], []), ([0, 2, 3, 4, 2], [0, 2, 3, 4]), ([5], [5]), ([6], [6]), ([6], [6]), ([7, 5, 0, 1, 2, 3, 4, 5, 6, 7], [7]), ([8, 9, 0, 1, 2, 3, 4, 5, 6, 7, 8, 9], [8])])
def laws_FnExactWalkOfSteps.B10 : List Nat := [0, 0, 2, 0, 0, 31, 63, 127, 127, 255, 1023]
theorem laws_FnExactWalkOfSteps.tab10 : rtab .any (opsOf Try.f8 10) = laws_FnExactWalkOfSteps.T10 := by kernel_rfl
theorem laws_FnExactWalkOfSteps.bits10 : waitsOk laws_FnExactWalkOfSteps.T10.2 laws_FnExactWalkOfSteps.B10 = true := by kernel_rfl
def laws_FnExactWalkOfSteps.T30 : Bool × List (List Nat × List Nat) := (true, [([], []), ([0], [0]), ([], []), ([2, 1], [2]), ([], []), ([], []), ([5, 3], [5]), ([1, 3, 4, 6, 6], [1, 3, 4, 6]), ([7], [7]), ([8], [8]), ([8], [8]), ([9, 7, 0, 1, 2, 3, 4, 5, 6, 7, 8, 9], [9]), ([10, 11, 0, 1, 2, 3, 4, 5, 6, 7, 8, 9, 10, 11], [10])])
def laws_FnExactWalkOfSteps.B30 : List Nat := [0, 1, 0, 7, 0, 0, 47, 127, 255, 511, 511, 1023, 4095]
theorem laws_FnExactWalkOfSteps.tab30 : rtab .any (opsOf Try.f8 30) = laws_FnExactWalkOfSteps.T30 := by kernel_rfl
theorem laws_FnExactWalkOfSteps.bits30 : waitsOk laws_FnExactWalkOfSteps.T30.2 laws_FnExactWalkOfSteps.B30 = true := by kernel_rfl
set_option maxHeartbeats 8000000 in
set_option maxRecDepth 100000 in
theorem laws_FnExactWalkOfSteps.calls (k : Nat) (a0_0 : Int) (a0_1 : Int) (A0_2 : Option Addr) (c0_2 : Nat) (l0_2 : List Int) (a1_0 : Int) (a1_1 : Int) (a2 : Int) (A3 : Option Addr) (c3 : Nat) (l3 : List Int) (r : Bool) (w : World) (hr0_2 : Kd.C (Kd.int .i64) w A0_2 l0_2.length l0_2) (hc0_2 : l0_2.length ≤ c0_2) (hr3 : Kd.C (Kd.int .i64) w A3 l3.length l3) (hc3 : l3.length ≤ c3) (h : laws_FnExactWalkOfSteps.f k a0_0 a0_1 l0_2 a1_0 a1_1 a2 l3 = some r) :
  Calls Try.prog 8 #[.agg #[.int .i64 a0_0, .int .i64 a0_1, .slice A0_2 l0_2.length c0_2], .agg #[.int .i64 a1_0, .int .i64 a1_1], .int .i64 a2, .slice A3 l3.length c3] w fun e w' => e = .returned (.bool r) ∧ Below w.heap.size w w' := by
 have hu24 := Try.underlying24
 have hu26 := Try.underlying26
 have hu30 := Try.underlying30
 have HR0_2 := Aside0.mk hr0_2
 have HC0_2 := Aside0.mk hc0_2
 clear hr0_2 hc0_2
 have HR3 := Aside0.mk hr3
 have HC3 := Aside0.mk hc3
 clear hr3 hc3
 have HB := Aside0.mk (Below.refl w.heap.size w)
 have H : (if (l3.length : Int) > 1048576 then (some true) else ((laws_szBoard.f a0_0 a0_1 l0_2 1048576).bind fun t982 => (if t982 < 0 then (some true) else ((laws_toBoard.f k a0_0 a0_1 l0_2).bind fun bt983 => ((laws_toLeaper.f a1_0 a1_1).bind fun bt988 => ((laws_toIntS.f k l3).bind fun t990 => ((spec_WalkOfSteps.f k bt983.1 bt983.2.1 bt983.2.2 bt988.1 bt988.2 a2 t990).bind fun bt993 => ((laws_toBoard.f k a0_0 a0_1 l0_2).bind fun bt997 => ((laws_toIntS.f k l3).bind fun t1003 => ((laws_toLeaper.f a1_0 a1_1).bind fun bt1006 => ((impl_WalkOfSteps.f k bt997.1 bt997.2.1 bt997.2.2 bt1006.1 bt1006.2 a2 t1003).bind fun bt1008 => ((laws_eqIntS.f k bt1008.1 bt993.1).bind fun t1012 => (if t1012 = true then (laws_FnExactWalkOfSteps.j0 k a2 l3 bt993.1 bt993.2 t1003 bt1008.1 bt1008.2 (bt1008.2 != bt993.2) a0_0 a0_1 l0_2 a1_0 a1_1 bt997.1 bt997.2.1 bt997.2.2) else (laws_FnExactWalkOfSteps.j0 k a2 l3 bt993.1 bt993.2 t1003 bt1008.1 bt1008.2 true a0_0 a0_1 l0_2 a1_0 a1_1 bt997.1 bt997.2.1 bt997.2.2)))))))))))))) = some r := h
 clear h
 by_cases c5 : (l3.length : Int) > 1048576
 ·rw [if_pos c5] at H
  have c5b0 : decide (1048576 < (l3.length : Int)) = true := decide_eq_true c5
  have c5b1 : decide (1048576 < l3.length) = true := decide_eq_true (by omega)
  clear c5
  obtain rfl := Option.some.inj H
  go_enter Try.func8, Try.ntmps8
  go_wp2_with (first | ((with_reducible refine gate_dst (N := 4) rfl ?_); refine box_event ?hg (N := 4) ?hd (cs := #[.int .i64 a0_0, .int .i64 a0_1, .slice A0_2 l0_2.length c0_2]) (t := 24) ?hr ?_; (case hd => rfl); (case hg => rfl); (case hr => first | (go_simp; done) | (go_simp; rfl)); intro gb980 hg w6 hbox hb; have n0_ := Aside0.mk (below_step zan14 hb); have n1_ := Aside0.mk (hbox); have n2_ := Aside0.mk ((zan53 : w.heap.size ≤ gb980)); have n3_ := Aside0.mk ((zan53 : w.heap.size ≤ gb980)); clear HB; have HB := n0_; have BK980 := n1_; have GW980 := n2_; have GE980 := n3_; clear n0_ n1_ n2_ n3_; clear hb hbox hg) | ((with_reducible refine gate_dst (N := 5) rfl ?_); refine box_event ?hg (N := 5) ?hd (cs := #[.int .i64 a1_0, .int .i64 a1_1]) (t := 26) ?hr ?_; (case hd => rfl); (case hg => rfl); (case hr => first | (go_simp; done) | (go_simp; rfl)); intro gb981 hg w7 hbox hb; have n0_ := Aside0.mk (blk_below (g := gb980) (o := .cells #[.int .i64 a0_0, .int .i64 a0_1, .slice A0_2 l0_2.length c0_2] 24 (0, 0)) zan2 hb); have n1_ := Aside0.mk (below_step zan10 hb); have n2_ := Aside0.mk (hbox); have n3_ := Aside0.mk ((zan54 : w.heap.size ≤ gb981)); have n4_ := Aside0.mk ((zan54 : w.heap.size ≤ gb981)); have n5_ := Aside0.mk ((zan51 : gb980 ≠ gb981)); have n6_ := Aside0.mk ((zan52 : gb981 ≠ gb980)); clear BK980; clear HB; have BK980 := n0_; have HB := n1_; have BK981 := n2_; have GW981 := n3_; have GE981 := n4_; have NB980_981 := n5_; have NB981_980 := n6_; clear n0_ n1_ n2_ n3_ n4_ n5_ n6_; clear hb hbox hg))
  go_ret
  exact ⟨zan16, zan5⟩
 rw [if_neg c5] at H
 have c5b0 : decide (1048576 < (l3.length : Int)) = false := decide_eq_false c5
 have c5b1 : decide (1048576 < l3.length) = false := decide_eq_false (by omega)
 clear c5
 replace H := Option.bind_eq_some_iff.mp H
 obtain ⟨t982, A80, H⟩ := H
 replace H : (if t982 < 0 then (some true) else ((laws_toBoard.f k a0_0 a0_1 l0_2).bind fun bt983 => ((laws_toLeaper.f a1_0 a1_1).bind fun bt988 => ((laws_toIntS.f k l3).bind fun t990 => ((spec_WalkOfSteps.f k bt983.1 bt983.2.1 bt983.2.2 bt988.1 bt988.2 a2 t990).bind fun bt993 => ((laws_toBoard.f k a0_0 a0_1 l0_2).bind fun bt997 => ((laws_toIntS.f k l3).bind fun t1003 => ((laws_toLeaper.f a1_0 a1_1).bind fun bt1006 => ((impl_WalkOfSteps.f k bt997.1 bt997.2.1 bt997.2.2 bt1006.1 bt1006.2 a2 t1003).bind fun bt1008 => ((laws_eqIntS.f k bt1008.1 bt993.1).bind fun t1012 => (if t1012 = true then (laws_FnExactWalkOfSteps.j0 k a2 l3 bt993.1 bt993.2 t1003 bt1008.1 bt1008.2 (bt1008.2 != bt993.2) a0_0 a0_1 l0_2 a1_0 a1_1 bt997.1 bt997.2.1 bt997.2.2) else (laws_FnExactWalkOfSteps.j0 k a2 l3 bt993.1 bt993.2 t1003 bt1008.1 bt1008.2 true a0_0 a0_1 l0_2 a1_0 a1_1 bt997.1 bt997.2.1 bt997.2.2)))))))))))) = some r := H
 have A8 := Aside0.mk A80
 clear A80
 by_cases c9 : t982 < 0
 ·rw [if_pos c9] at H
  have c9b0 : decide (t982 < 0) = true := decide_eq_true c9
  clear c9
  obtain rfl := Option.some.inj H
  go_enter Try.func8, Try.ntmps8
  go_wp2_with (first | ((with_reducible refine gate_dst (N := 4) rfl ?_); refine box_event ?hg (N := 4) ?hd (cs := #[.int .i64 a0_0, .int .i64 a0_1, .slice A0_2 l0_2.length c0_2]) (t := 24) ?hr ?_; (case hd => rfl); (case hg => rfl); (case hr => first | (go_simp; done) | (go_simp; rfl)); intro gb980 hg w10 hbox hb; have n0_ := Aside0.mk (below_step zan14 hb); have n1_ := Aside0.mk (hbox); have n2_ := Aside0.mk ((zan53 : w.heap.size ≤ gb980)); have n3_ := Aside0.mk ((zan53 : w.heap.size ≤ gb980)); clear HB; have HB := n0_; have BK980 := n1_; have GW980 := n2_; have GE980 := n3_; clear n0_ n1_ n2_ n3_; clear hb hbox hg) | ((with_reducible refine gate_dst (N := 5) rfl ?_); refine box_event ?hg (N := 5) ?hd (cs := #[.int .i64 a1_0, .int .i64 a1_1]) (t := 26) ?hr ?_; (case hd => rfl); (case hg => rfl); (case hr => first | (go_simp; done) | (go_simp; rfl)); intro gb981 hg w11 hbox hb; have n0_ := Aside0.mk (blk_below (g := gb980) (o := .cells #[.int .i64 a0_0, .int .i64 a0_1, .slice A0_2 l0_2.length c0_2] 24 (0, 0)) zan2 hb); have n1_ := Aside0.mk (below_step zan10 hb); have n2_ := Aside0.mk (hbox); have n3_ := Aside0.mk ((zan54 : w.heap.size ≤ gb981)); have n4_ := Aside0.mk ((zan54 : w.heap.size ≤ gb981)); have n5_ := Aside0.mk ((zan51 : gb980 ≠ gb981)); have n6_ := Aside0.mk ((zan52 : gb981 ≠ gb980)); clear BK980; clear HB; have BK980 := n0_; have HB := n1_; have BK981 := n2_; have GW981 := n3_; have GE981 := n4_; have NB980_981 := n5_; have NB981_980 := n6_; clear n0_ n1_ n2_ n3_ n4_ n5_ n6_; clear hb hbox hg; have hnb12 := NB980_981.out; have hnc12 := NB981_980.out; have hcz13_0 : w11.cell? ⟨gb980, 0, none⟩ = some (.int .i64 a0_0) := (blk_cell BK980.out 0).trans rfl; have hcz13_1 : w11.cell? ⟨gb980, 1, none⟩ = some (.int .i64 a0_1) := (blk_cell BK980.out 1).trans rfl; have hcz13_2 : w11.cell? ⟨gb980, 2, none⟩ = some (.slice A0_2 l0_2.length c0_2) := (blk_cell BK980.out 2).trans rfl; have hfz13_0 := blk_frozen BK980.out 0; have hfz13_1 := blk_frozen BK980.out 1; have hfz13_2 := blk_frozen BK980.out 2) | ((with_reducible refine gate_callee (f := 12) rfl ?_); refine goesL_ (some 26) rfl rfl Try.func12 (by kernel_rfl) rfl #[.agg #[.int .i64 a0_0, .int .i64 a0_1, .slice A0_2 l0_2.length c0_2], .int .i64 1048576] rfl zan3 ?_; (with_reducible refine (laws_szBoard.calls a0_0 a0_1 _ _ l0_2 1048576 t982 _ ?side1 ?side2 A8.out).mono ?_); (case side1 => exact zan12); (case side2 => exact HC0_2.out); rintro e w14 ⟨rfl, hb⟩; refine ⟨_, rfl, ?_⟩; have n0_ := Aside0.mk (blk_below (g := gb980) (o := .cells #[.int .i64 a0_0, .int .i64 a0_1, .slice A0_2 l0_2.length c0_2] 24 (0, 0)) zan2 hb); have n1_ := Aside0.mk (blk_below (g := gb981) (o := .cells #[.int .i64 a1_0, .int .i64 a1_1] 26 (0, 0)) zan4 hb); have n2_ := Aside0.mk (below_step zan5 hb); clear BK980; clear BK981; clear HB; have BK980 := n0_; have BK981 := n1_; have HB := n2_; clear n0_ n1_ n2_; (try clear hb); (try clear hb2); (try clear hk); (try clear hi); (try clear hna_); (try clear hnb_)))
  go_ret
  exact ⟨zan16, zan5⟩
 rw [if_neg c9] at H
 have c9b0 : decide (t982 < 0) = false := decide_eq_false c9
 clear c9
 replace H := Option.bind_eq_some_iff.mp H
 obtain ⟨⟨t983, t984, t985⟩, A150, H⟩ := H
 replace H : ((laws_toLeaper.f a1_0 a1_1).bind fun bt988 => ((laws_toIntS.f k l3).bind fun t990 => ((spec_WalkOfSteps.f k t983 t984 t985 bt988.1 bt988.2 a2 t990).bind fun bt993 => ((laws_toBoard.f k a0_0 a0_1 l0_2).bind fun bt997 => ((laws_toIntS.f k l3).bind fun t1003 => ((laws_toLeaper.f a1_0 a1_1).bind fun bt1006 => ((impl_WalkOfSteps.f k bt997.1 bt997.2.1 bt997.2.2 bt1006.1 bt1006.2 a2 t1003).bind fun bt1008 => ((laws_eqIntS.f k bt1008.1 bt993.1).bind fun t1012 => (if t1012 = true then (laws_FnExactWalkOfSteps.j0 k a2 l3 bt993.1 bt993.2 t1003 bt1008.1 bt1008.2 (bt1008.2 != bt993.2) a0_0 a0_1 l0_2 a1_0 a1_1 bt997.1 bt997.2.1 bt997.2.2) else (laws_FnExactWalkOfSteps.j0 k a2 l3 bt993.1 bt993.2 t1003 bt1008.1 bt1008.2 true a0_0 a0_1 l0_2 a1_0 a1_1 bt997.1 bt997.2.1 bt997.2.2)))))))))) = some r := H
 have A15 := Aside0.mk A150
 clear A150
 replace H := Option.bind_eq_some_iff.mp H
 obtain ⟨⟨t988, t989⟩, A160, H⟩ := H
 replace H : ((laws_toIntS.f k l3).bind fun t990 => ((spec_WalkOfSteps.f k t983 t984 t985 t988 t989 a2 t990).bind fun bt993 => ((laws_toBoard.f k a0_0 a0_1 l0_2).bind fun bt997 => ((laws_toIntS.f k l3).bind fun t1003 => ((laws_toLeaper.f a1_0 a1_1).bind fun bt1006 => ((impl_WalkOfSteps.f k bt997.1 bt997.2.1 bt997.2.2 bt1006.1 bt1006.2 a2 t1003).bind fun bt1008 => ((laws_eqIntS.f k bt1008.1 bt993.1).bind fun t1012 => (if t1012 = true then (laws_FnExactWalkOfSteps.j0 k a2 l3 bt993.1 bt993.2 t1003 bt1008.1 bt1008.2 (bt1008.2 != bt993.2) a0_0 a0_1 l0_2 a1_0 a1_1 bt997.1 bt997.2.1 bt997.2.2) else (laws_FnExactWalkOfSteps.j0 k a2 l3 bt993.1 bt993.2 t1003 bt1008.1 bt1008.2 true a0_0 a0_1 l0_2 a1_0 a1_1 bt997.1 bt997.2.1 bt997.2.2))))))))) = some r := H
 have A16 := Aside0.mk A160
 clear A160
 replace H := Option.bind_eq_some_iff.mp H
 obtain ⟨t990, A170, H⟩ := H
 replace H : ((spec_WalkOfSteps.f k t983 t984 t985 t988 t989 a2 t990).bind fun bt993 => ((laws_toBoard.f k a0_0 a0_1 l0_2).bind fun bt997 => ((laws_toIntS.f k l3).bind fun t1003 => ((laws_toLeaper.f a1_0 a1_1).bind fun bt1006 => ((impl_WalkOfSteps.f k bt997.1 bt997.2.1 bt997.2.2 bt1006.1 bt1006.2 a2 t1003).bind fun bt1008 => ((laws_eqIntS.f k bt1008.1 bt993.1).bind fun t1012 => (if t1012 = true then (laws_FnExactWalkOfSteps.j0 k a2 l3 bt993.1 bt993.2 t1003 bt1008.1 bt1008.2 (bt1008.2 != bt993.2) a0_0 a0_1 l0_2 a1_0 a1_1 bt997.1 bt997.2.1 bt997.2.2) else (laws_FnExactWalkOfSteps.j0 k a2 l3 bt993.1 bt993.2 t1003 bt1008.1 bt1008.2 true a0_0 a0_1 l0_2 a1_0 a1_1 bt997.1 bt997.2.1 bt997.2.2)))))))) = some r := H
 have A17 := Aside0.mk A170
 clear A170
 replace H := Option.bind_eq_some_iff.mp H
 obtain ⟨⟨t993, t996⟩, A180, H⟩ := H
 replace H : ((laws_toBoard.f k a0_0 a0_1 l0_2).bind fun bt997 => ((laws_toIntS.f k l3).bind fun t1003 => ((laws_toLeaper.f a1_0 a1_1).bind fun bt1006 => ((impl_WalkOfSteps.f k bt997.1 bt997.2.1 bt997.2.2 bt1006.1 bt1006.2 a2 t1003).bind fun bt1008 => ((laws_eqIntS.f k bt1008.1 t993).bind fun t1012 => (if t1012 = true then (laws_FnExactWalkOfSteps.j0 k a2 l3 t993 t996 t1003 bt1008.1 bt1008.2 (bt1008.2 != t996) a0_0 a0_1 l0_2 a1_0 a1_1 bt997.1 bt997.2.1 bt997.2.2) else (laws_FnExactWalkOfSteps.j0 k a2 l3 t993 t996 t1003 bt1008.1 bt1008.2 true a0_0 a0_1 l0_2 a1_0 a1_1 bt997.1 bt997.2.1 bt997.2.2))))))) = some r := H
 have A18 := Aside0.mk A180
 clear A180
 replace H := Option.bind_eq_some_iff.mp H
 obtain ⟨⟨t997, t998, t999⟩, A190, H⟩ := H
 replace H : ((laws_toIntS.f k l3).bind fun t1003 => ((laws_toLeaper.f a1_0 a1_1).bind fun bt1006 => ((impl_WalkOfSteps.f k t997 t998 t999 bt1006.1 bt1006.2 a2 t1003).bind fun bt1008 => ((laws_eqIntS.f k bt1008.1 t993).bind fun t1012 => (if t1012 = true then (laws_FnExactWalkOfSteps.j0 k a2 l3 t993 t996 t1003 bt1008.1 bt1008.2 (bt1008.2 != t996) a0_0 a0_1 l0_2 a1_0 a1_1 t997 t998 t999) else (laws_FnExactWalkOfSteps.j0 k a2 l3 t993 t996 t1003 bt1008.1 bt1008.2 true a0_0 a0_1 l0_2 a1_0 a1_1 t997 t998 t999)))))) = some r := H
 have A19 := Aside0.mk A190
 clear A190
 replace H := Option.bind_eq_some_iff.mp H
 obtain ⟨t1003, A200, H⟩ := H
 replace H : ((laws_toLeaper.f a1_0 a1_1).bind fun bt1006 => ((impl_WalkOfSteps.f k t997 t998 t999 bt1006.1 bt1006.2 a2 t1003).bind fun bt1008 => ((laws_eqIntS.f k bt1008.1 t993).bind fun t1012 => (if t1012 = true then (laws_FnExactWalkOfSteps.j0 k a2 l3 t993 t996 t1003 bt1008.1 bt1008.2 (bt1008.2 != t996) a0_0 a0_1 l0_2 a1_0 a1_1 t997 t998 t999) else (laws_FnExactWalkOfSteps.j0 k a2 l3 t993 t996 t1003 bt1008.1 bt1008.2 true a0_0 a0_1 l0_2 a1_0 a1_1 t997 t998 t999))))) = some r := H
 have A20 := Aside0.mk A200
 clear A200
 replace H := Option.bind_eq_some_iff.mp H
 obtain ⟨⟨t1006, t1007⟩, A210, H⟩ := H
 replace H : ((impl_WalkOfSteps.f k t997 t998 t999 t1006 t1007 a2 t1003).bind fun bt1008 => ((laws_eqIntS.f k bt1008.1 t993).bind fun t1012 => (if t1012 = true then (laws_FnExactWalkOfSteps.j0 k a2 l3 t993 t996 t1003 bt1008.1 bt1008.2 (bt1008.2 != t996) a0_0 a0_1 l0_2 a1_0 a1_1 t997 t998 t999) else (laws_FnExactWalkOfSteps.j0 k a2 l3 t993 t996 t1003 bt1008.1 bt1008.2 true a0_0 a0_1 l0_2 a1_0 a1_1 t997 t998 t999)))) = some r := H
 have A21 := Aside0.mk A210
 clear A210
 replace H := Option.bind_eq_some_iff.mp H
 obtain ⟨⟨t1008, t1011⟩, A220, H⟩ := H
 replace H : ((laws_eqIntS.f k t1008 t993).bind fun t1012 => (if t1012 = true then (laws_FnExactWalkOfSteps.j0 k a2 l3 t993 t996 t1003 t1008 t1011 (t1011 != t996) a0_0 a0_1 l0_2 a1_0 a1_1 t997 t998 t999) else (laws_FnExactWalkOfSteps.j0 k a2 l3 t993 t996 t1003 t1008 t1011 true a0_0 a0_1 l0_2 a1_0 a1_1 t997 t998 t999))) = some r := H
 have A22 := Aside0.mk A220
 clear A220
 have HC23 := Aside0.mk H
 clear H
 go_enter Try.func8, Try.ntmps8
 try go_wp2_with (first | ((with_reducible refine gate_dst (N := 4) rfl ?_); refine box_event ?hg (N := 4) ?hd (cs := #[.int .i64 a0_0, .int .i64 a0_1, .slice A0_2 l0_2.length c0_2]) (t := 24) ?hr ?_; (case hd => rfl); (case hg => rfl); (case hr => first | (go_simp; done) | (go_simp; rfl)); intro gb980 hg w24 hbox hb; have n0_ := Aside0.mk (below_step zan14 hb); have n1_ := Aside0.mk (hbox); have n2_ := Aside0.mk ((zan53 : w.heap.size ≤ gb980)); have n3_ := Aside0.mk ((zan53 : w.heap.size ≤ gb980)); clear HB; have HB := n0_; have BK980 := n1_; have GW980 := n2_; have GE980 := n3_; clear n0_ n1_ n2_ n3_; clear hb hbox hg) | ((with_reducible refine gate_dst (N := 5) rfl ?_); refine box_event ?hg (N := 5) ?hd (cs := #[.int .i64 a1_0, .int .i64 a1_1]) (t := 26) ?hr ?_; (case hd => rfl); (case hg => rfl); (case hr => first | (go_simp; done) | (go_simp; rfl)); intro gb981 hg w25 hbox hb; have n0_ := Aside0.mk (blk_below (g := gb980) (o := .cells #[.int .i64 a0_0, .int .i64 a0_1, .slice A0_2 l0_2.length c0_2] 24 (0, 0)) zan2 hb); have n1_ := Aside0.mk (below_step zan10 hb); have n2_ := Aside0.mk (hbox); have n3_ := Aside0.mk ((zan54 : w.heap.size ≤ gb981)); have n4_ := Aside0.mk ((zan54 : w.heap.size ≤ gb981)); have n5_ := Aside0.mk ((zan51 : gb980 ≠ gb981)); have n6_ := Aside0.mk ((zan52 : gb981 ≠ gb980)); clear BK980; clear HB; have BK980 := n0_; have HB := n1_; have BK981 := n2_; have GW981 := n3_; have GE981 := n4_; have NB980_981 := n5_; have NB981_980 := n6_; clear n0_ n1_ n2_ n3_ n4_ n5_ n6_; clear hb hbox hg; have hnb26 := NB980_981.out; have hnc26 := NB981_980.out; have hcz27_0 : w25.cell? ⟨gb980, 0, none⟩ = some (.int .i64 a0_0) := (blk_cell BK980.out 0).trans rfl; have hcz27_1 : w25.cell? ⟨gb980, 1, none⟩ = some (.int .i64 a0_1) := (blk_cell BK980.out 1).trans rfl; have hcz27_2 : w25.cell? ⟨gb980, 2, none⟩ = some (.slice A0_2 l0_2.length c0_2) := (blk_cell BK980.out 2).trans rfl; have hfz27_0 := blk_frozen BK980.out 0; have hfz27_1 := blk_frozen BK980.out 1; have hfz27_2 := blk_frozen BK980.out 2) | ((with_reducible refine gate_callee (f := 12) rfl ?_); refine goesL_ (some 26) rfl rfl Try.func12 (by kernel_rfl) rfl #[.agg #[.int .i64 a0_0, .int .i64 a0_1, .slice A0_2 l0_2.length c0_2], .int .i64 1048576] rfl zan3 ?_; (with_reducible refine (laws_szBoard.calls a0_0 a0_1 _ _ l0_2 1048576 t982 _ ?side1 ?side2 A8.out).mono ?_); (case side1 => exact zan12); (case side2 => exact HC0_2.out); rintro e w28 ⟨rfl, hb⟩; refine ⟨_, rfl, ?_⟩; have n0_ := Aside0.mk (blk_below (g := gb980) (o := .cells #[.int .i64 a0_0, .int .i64 a0_1, .slice A0_2 l0_2.length c0_2] 24 (0, 0)) zan2 hb); have n1_ := Aside0.mk (blk_below (g := gb981) (o := .cells #[.int .i64 a1_0, .int .i64 a1_1] 26 (0, 0)) zan4 hb); have n2_ := Aside0.mk (below_step zan5 hb); clear BK980; clear BK981; clear HB; have BK980 := n0_; have BK981 := n1_; have HB := n2_; clear n0_ n1_ n2_; (try clear hb); (try clear hb2); (try clear hk); (try clear hi); (try clear hna_); (try clear hnb_)))
 have n0_ := Aside0.mk (blk_drew BK980.out)
 have n1_ := Aside0.mk (blk_drew BK981.out)
 have n2_ := Aside0.mk (below_drew1 HB.out)
 clear BK980
 clear BK981
 clear HB
 have BK980 := n0_
 have BK981 := n1_
 have HB := n2_
 clear n0_ n1_ n2_
 refine start_ (n := 13) (S := fun w' => w'.cell? ⟨gb980, 0, none⟩ = some (.int .i64 a0_0) ∧ w'.cell? ⟨gb980, 1, none⟩ = some (.int .i64 a0_1) ∧ w'.cell? ⟨gb980, 2, none⟩ = some (.slice A0_2 l0_2.length c0_2) ∧ w'.cell? ⟨gb981, 0, none⟩ = some (.int .i64 a1_0) ∧ w'.cell? ⟨gb981, 1, none⟩ = some (.int .i64 a1_1)) (ds := []) #[false, false, false, false, false, false, false, false, false, false, false, false, false] (by kernel_rfl) rfl rfl ⟨(blk_cell BK980.out 0).trans rfl, (blk_cell BK980.out 1).trans rfl, (blk_cell BK980.out 2).trans rfl, (blk_cell BK981.out 0).trans rfl, (blk_cell BK981.out 1).trans rfl⟩ (fun hHeld => ?_); refine with_tabW laws_FnExactWalkOfSteps.tab7 laws_FnExactWalkOfSteps.bits7 (fun HT_ HW_ => ?_)
 generalize w28.drew = w29 at BK980 BK981 HB hHeld ⊢
 refine pure_ (i := 4) (N := some 34) (v := ?_) (a' := ?_) #[false, false, false, false, true, false, false, false, false, false, false, false, false] rfl rfl (any_of HT_.out (by kernel_rfl)) (fun _ _ _ h => h) (Or.inl ⟨by rfl, ?_⟩) ?_ ?_
 rotate_left
 ·intro w'
  go_simp
  with_reducible rfl
 rotate_left
 ·simp only [Act.put, List.setIfInBounds_toArray, List.set_cons_zero, List.set_cons_succ, i64_w, i32_w]
  rfl
 refine pure_ (i := 5) (N := some 35) (v := ?_) (a' := ?_) #[false, false, false, false, true, true, false, false, false, false, false, false, false] rfl rfl (any_of HT_.out (by kernel_rfl)) (fun _ _ _ h => h) (Or.inl ⟨by rfl, ?_⟩) ?_ ?_
 rotate_left
 ·intro w'
  go_simp
  with_reducible rfl
 rotate_left
 ·simp only [Act.put, List.setIfInBounds_toArray, List.set_cons_zero, List.set_cons_succ, i64_w, i32_w]
  rfl
 refine take_ (i := 0) (N := some 30) (v := ?_) (a' := ?_) #[true, false, false, false, true, true, false, false, false, false, false, false, false] rfl rfl (take_ofW HT_.out HW_.out (by kernel_rfl)) (fun _ _ _ h => h) (Or.inl ⟨by rfl, ?_⟩) hHeld ?_ ?_
 rotate_left
 ·rintro w' ⟨s0, s1, s2, s3, s4⟩
  go_simp
  with_reducible rfl
 rotate_left
 ·simp only [Act.put, List.setIfInBounds_toArray, List.set_cons_zero, List.set_cons_succ, i64_w, i32_w]
  rfl
 refine take_ (i := 2) (N := some 32) (v := ?_) (a' := ?_) #[true, false, true, false, true, true, false, false, false, false, false, false, false] rfl rfl (take_ofW HT_.out HW_.out (by kernel_rfl)) (fun _ _ _ h => h) (Or.inl ⟨by rfl, ?_⟩) hHeld ?_ ?_
 rotate_left
 ·rintro w' ⟨s0, s1, s2, s3, s4⟩
  go_simp
  with_reducible rfl
 rotate_left
 ·simp only [Act.put, List.setIfInBounds_toArray, List.set_cons_zero, List.set_cons_succ, i64_w, i32_w]
  rfl
 refine one_ (i := 1) (N := some 31) #[true, true, true, false, true, true, false, false, false, false, false, false, false] rfl rfl (one_of HT_.out (by kernel_rfl)) (by decide) (fun K hK => ?_)
 refine goes_ Try.func14 (by kernel_rfl) rfl #[.agg #[.int .i64 a0_0, .int .i64 a0_1, .slice A0_2 l0_2.length c0_2]] (by rfl) rfl rfl zan3 ?_
 with_reducible refine (laws_toBoard.calls k a0_0 a0_1 _ _ l0_2 t983 t984 t985 _ ?side1 ?side2 A15.out).mono ?_
 (case side1 => exact zan12)
 (case side2 => exact HC0_2.out)
 rintro e w30 ⟨v986, rfl, ho0, hb⟩
 refine ⟨_, rfl, ?_⟩
 have n0_ := Aside0.mk (Kd.R_lower ho0 (below_size zan5))
 have n1_ := Aside0.mk (blk_below (g := gb980) (o := .cells #[.int .i64 a0_0, .int .i64 a0_1, .slice A0_2 l0_2.length c0_2] 24 (0, 0)) zan2 hb)
 have n2_ := Aside0.mk (blk_below (g := gb981) (o := .cells #[.int .i64 a1_0, .int .i64 a1_1] 26 (0, 0)) zan4 hb)
 have n3_ := Aside0.mk (below_step zan5 hb)
 clear BK980
 clear BK981
 clear HB
 have HO987 := n0_
 have BK980 := n1_
 have BK981 := n2_
 have HB := n3_
 clear n0_ n1_ n2_ n3_
 (try clear hb)
 (try clear hb2)
 (try clear hk)
 (try clear hi)
 (try clear ho0)
 (try clear hna_)
 (try clear hnb_)
 refine hK.out _ _ ⟨(blk_cell BK980.out 0).trans rfl, (blk_cell BK980.out 1).trans rfl, (blk_cell BK980.out 2).trans rfl, (blk_cell BK981.out 0).trans rfl, (blk_cell BK981.out 1).trans rfl⟩ (fun hHeld => ?_)
 clear hK K
 refine norm_ (a' := ?_) ?_ ?_
 rotate_left
 ·show Act.put _ (some 31) _ = _
  simp only [Act.put, List.setIfInBounds_toArray, List.set_cons_zero, List.set_cons_succ, i64_w, i32_w]
  rfl
 refine one_ (i := 3) (N := some 33) #[true, true, true, true, true, true, false, false, false, false, false, false, false] rfl rfl (one_of HT_.out (by kernel_rfl)) (by decide) (fun K hK => ?_)
 refine goes_ Try.func15 (by kernel_rfl) rfl #[.agg #[.int .i64 a1_0, .int .i64 a1_1]] (by rfl) rfl rfl zan3 ?_
 with_reducible refine (laws_toLeaper.calls a1_0 a1_1 t988 t989 _ A16.out).mono ?_
 rintro e w31 ⟨rfl, hb⟩
 refine ⟨_, rfl, ?_⟩
 have n0_ := Aside0.mk (Kd.R_below zan15 hb)
 have n1_ := Aside0.mk (blk_below (g := gb980) (o := .cells #[.int .i64 a0_0, .int .i64 a0_1, .slice A0_2 l0_2.length c0_2] 24 (0, 0)) zan2 hb)
 have n2_ := Aside0.mk (blk_below (g := gb981) (o := .cells #[.int .i64 a1_0, .int .i64 a1_1] 26 (0, 0)) zan4 hb)
 have n3_ := Aside0.mk (below_step zan5 hb)
 clear HO987
 clear BK980
 clear BK981
 clear HB
 have HO987 := n0_
 have BK980 := n1_
 have BK981 := n2_
 have HB := n3_
 clear n0_ n1_ n2_ n3_
 (try clear hb)
 (try clear hb2)
 (try clear hk)
 (try clear hi)
 (try clear hna_)
 (try clear hnb_)
 refine hK.out _ _ ⟨(blk_cell BK980.out 0).trans rfl, (blk_cell BK980.out 1).trans rfl, (blk_cell BK980.out 2).trans rfl, (blk_cell BK981.out 0).trans rfl, (blk_cell BK981.out 1).trans rfl⟩ (fun hHeld => ?_)
 clear hK K
 refine norm_ (a' := ?_) ?_ ?_
 rotate_left
 ·show Act.put _ (some 33) _ = _
  simp only [Act.put, List.setIfInBounds_toArray, List.set_cons_zero, List.set_cons_succ, i64_w, i32_w]
  rfl
 refine one_ (i := 6) (N := some 36) #[true, true, true, true, true, true, true, false, false, false, false, false, false] rfl rfl (one_of HT_.out (by kernel_rfl)) (by decide) (fun K hK => ?_)
 refine goes_ Try.func16 (by kernel_rfl) rfl #[.slice A3 l3.length c3] (by rfl) rfl rfl zan3 ?_
 with_reducible refine (laws_toIntS.calls k _ _ l3 t990 _ ?side1 ?side2 A17.out).mono ?_
 (case side1 => exact zan21)
 (case side2 => exact HC3.out)
 rintro e w32 ⟨v991, rfl, ho0, hb⟩
 refine ⟨_, rfl, ?_⟩
 have n0_ := Aside0.mk (Kd.R_elder' zan15 (Kd.R_base ho0) hb)
 have n1_ := Aside0.mk (Kd.R_lower (Kd.R_new' ho0 (Kd.R_lt zan15)) (below_size zan5))
 have n2_ := Aside0.mk (blk_below (g := gb980) (o := .cells #[.int .i64 a0_0, .int .i64 a0_1, .slice A0_2 l0_2.length c0_2] 24 (0, 0)) zan2 hb)
 have n3_ := Aside0.mk (blk_below (g := gb981) (o := .cells #[.int .i64 a1_0, .int .i64 a1_1] 26 (0, 0)) zan4 hb)
 have n4_ := Aside0.mk (below_step zan5 hb)
 clear HO987
 clear BK980
 clear BK981
 clear HB
 have HO987 := n0_
 have HO992 := n1_
 have BK980 := n2_
 have BK981 := n3_
 have HB := n4_
 clear n0_ n1_ n2_ n3_ n4_
 (try clear hb)
 (try clear hb2)
 (try clear hk)
 (try clear hi)
 (try clear ho0)
 (try clear hna_)
 (try clear hnb_)
 obtain ⟨Ao33, co33, eo33⟩ := Kd.R_slice HO987.out
 (first | subst eo33 | (injection eo33 with f1_ f2_ f3_; have f4_ := f1_.symm; have f5_ := f3_.symm; clear f1_ f2_ f3_; subst f4_; subst f5_))
 obtain ⟨Ao34, co34, eo34⟩ := Kd.R_slice HO992.out
 (first | subst eo34 | (injection eo34 with f1_ f2_ f3_; have f4_ := f1_.symm; have f5_ := f3_.symm; clear f1_ f2_ f3_; subst f4_; subst f5_))
 refine hK.out _ _ ⟨(blk_cell BK980.out 0).trans rfl, (blk_cell BK980.out 1).trans rfl, (blk_cell BK980.out 2).trans rfl, (blk_cell BK981.out 0).trans rfl, (blk_cell BK981.out 1).trans rfl⟩ (fun hHeld => ?_)
 clear hK K
 refine norm_ (a' := ?_) ?_ ?_
 rotate_left
 ·show Act.put _ (some 36) _ = _
  simp only [Act.put, List.setIfInBounds_toArray, List.set_cons_zero, List.set_cons_succ, i64_w, i32_w]
  rfl
 refine one_ (i := 7) (N := some 37) #[true, true, true, true, true, true, true, true, false, false, false, false, false] rfl rfl (one_of HT_.out (by kernel_rfl)) (by decide) (fun K hK => ?_)
 refine goes_ Try.func31 (by kernel_rfl) rfl #[.agg #[.int .i64 t983, .int .i64 t984, .slice Ao33 t985.length co33], .agg #[.int .i64 t988, .int .i64 t989], .int .i64 a2, .slice Ao34 t990.length co34] (by rfl) rfl rfl zan3 ?_
 with_reducible refine (spec_WalkOfSteps.calls k t983 t984 _ _ t985 t988 t989 a2 _ _ t990 t993 t996 _ ?side1 ?side2 ?side3 ?side4 A18.out).mono ?_
 (case side1 => repeat (first | exact (Kd.R_reads' HO987.out).2.2 | (with_reducible refine Kd.C_alloc ?_ _) | (with_reducible refine Kd.C_drewN ?_ _) | (with_reducible refine Kd.C_drew ?_)))
 (case side2 => exact (Kd.R_reads' HO987.out).2.1)
 (case side3 => repeat (first | exact (Kd.R_reads' HO992.out).2.2 | (with_reducible refine Kd.C_alloc ?_ _) | (with_reducible refine Kd.C_drewN ?_ _) | (with_reducible refine Kd.C_drew ?_)))
 (case side4 => exact (Kd.R_reads' HO992.out).2.1)
 rintro e w35 ⟨v994, rfl, ho0, hb⟩
 refine ⟨_, rfl, ?_⟩
 have n0_ := Aside0.mk (Kd.R_elder' zan15 (Kd.R_base ho0) hb)
 have n1_ := Aside0.mk (Kd.R_elder' zan17 (Kd.R_base ho0) hb)
 have n2_ := Aside0.mk (Kd.R_lower (Kd.R_new' (Kd.R_new' ho0 (Kd.R_lt zan15)) (Kd.R_lt zan17)) (below_size zan5))
 have n3_ := Aside0.mk (blk_below (g := gb980) (o := .cells #[.int .i64 a0_0, .int .i64 a0_1, .slice A0_2 l0_2.length c0_2] 24 (0, 0)) zan2 hb)
 have n4_ := Aside0.mk (blk_below (g := gb981) (o := .cells #[.int .i64 a1_0, .int .i64 a1_1] 26 (0, 0)) zan4 hb)
 have n5_ := Aside0.mk (below_step zan5 hb)
 clear HO987
 clear HO992
 clear BK980
 clear BK981
 clear HB
 have HO987 := n0_
 have HO992 := n1_
 have HO995 := n2_
 have BK980 := n3_
 have BK981 := n4_
 have HB := n5_
 clear n0_ n1_ n2_ n3_ n4_ n5_
 (try clear hb)
 (try clear hb2)
 (try clear hk)
 (try clear hi)
 (try clear ho0)
 (try clear hna_)
 (try clear hnb_)
 refine hK.out _ _ ⟨(blk_cell BK980.out 0).trans rfl, (blk_cell BK980.out 1).trans rfl, (blk_cell BK980.out 2).trans rfl, (blk_cell BK981.out 0).trans rfl, (blk_cell BK981.out 1).trans rfl⟩ (fun hHeld => ?_)
 clear hK K
 refine norm_ (a' := ?_) ?_ ?_
 rotate_left
 ·show Act.put _ (some 37) _ = _
  simp only [Act.put, List.setIfInBounds_toArray, List.set_cons_zero, List.set_cons_succ, i64_w, i32_w]
  rfl
 refine pure_ (i := 8) (N := some 29) (v := ?_) (a' := ?_) #[true, true, true, true, true, true, true, true, true, false, false, false, false] rfl rfl (any_of HT_.out (by kernel_rfl)) (fun _ _ _ h => h) (Or.inl ⟨by rfl, ?_⟩) ?_ ?_
 rotate_left
 ·intro w'
  go_simp
  with_reducible rfl
 rotate_left
 ·simp only [Act.put, List.setIfInBounds_toArray, List.set_cons_zero, List.set_cons_succ, i64_w, i32_w]
  rfl
 refine pure_ (i := 9) (N := some 38) (v := ?_) (a' := ?_) #[true, true, true, true, true, true, true, true, true, true, false, false, false] rfl rfl (any_of HT_.out (by kernel_rfl)) (fun _ _ _ h => h) (Or.inl ⟨by rfl, ?_⟩) ?_ ?_
 rotate_left
 ·intro w'
  go_simp
  with_reducible rfl
 rotate_left
 ·simp only [Act.put, List.setIfInBounds_toArray, List.set_cons_zero, List.set_cons_succ, i64_w, i32_w]
  rfl
 refine pure_ (i := 10) (N := some 39) (v := ?_) (a' := ?_) #[true, true, true, true, true, true, true, true, true, true, true, false, false] rfl rfl (any_of HT_.out (by kernel_rfl)) (fun _ _ _ h => h) (Or.inl ⟨by rfl, ?_⟩) ?_ ?_
 rotate_left
 ·intro w'
  go_simp
  with_reducible rfl
 rotate_left
 ·simp only [Act.put, List.setIfInBounds_toArray, List.set_cons_zero, List.set_cons_succ, i64_w, i32_w]
  rfl
 refine pure_ (i := 11) (N := some 10) (v := ?_) (a' := ?_) #[true, true, true, true, true, true, true, true, true, true, true, true, false] rfl rfl (any_of HT_.out (by kernel_rfl)) (fun _ _ _ h => h) (Or.inl ⟨by rfl, ?_⟩) ?_ ?_
 rotate_left
 ·intro w'
  go_simp
  with_reducible rfl
 rotate_left
 ·simp only [Act.put, List.setIfInBounds_toArray, List.set_cons_zero, List.set_cons_succ, i64_w, i32_w]
  rfl
 refine pure_ (i := 12) (N := some 11) (v := ?_) (a' := ?_) #[true, true, true, true, true, true, true, true, true, true, true, true, true] rfl rfl (any_of HT_.out (by kernel_rfl)) (fun _ _ _ h => h) (Or.inl ⟨by rfl, ?_⟩) ?_ ?_
 rotate_left
 ·intro w'
  go_simp
  with_reducible rfl
 rotate_left
 ·simp only [Act.put, List.setIfInBounds_toArray, List.set_cons_zero, List.set_cons_succ, i64_w, i32_w]
  rfl
 refine done_ (done_of HT_.out (by kernel_rfl)) ?_
 have hcz36_0 : w35.cell? ⟨gb980, 0, none⟩ = some (.int .i64 a0_0) := (blk_cell BK980.out 0).trans rfl
 have hcz36_1 : w35.cell? ⟨gb980, 1, none⟩ = some (.int .i64 a0_1) := (blk_cell BK980.out 1).trans rfl
 have hcz36_2 : w35.cell? ⟨gb980, 2, none⟩ = some (.slice A0_2 l0_2.length c0_2) := (blk_cell BK980.out 2).trans rfl
 have hfz36_0 := blk_frozen BK980.out 0
 have hfz36_1 := blk_frozen BK980.out 1
 have hfz36_2 := blk_frozen BK980.out 2
 try go_wp2_with (first | ((with_reducible refine gate_callee (f := 14) rfl ?_); refine goesL_ (some 41) rfl rfl Try.func14 (by kernel_rfl) rfl #[.agg #[.int .i64 a0_0, .int .i64 a0_1, .slice A0_2 l0_2.length c0_2]] rfl zan3 ?_; (with_reducible refine (laws_toBoard.calls k a0_0 a0_1 _ _ l0_2 t997 t998 t999 _ ?side1 ?side2 A19.out).mono ?_); (case side1 => exact zan12); (case side2 => exact HC0_2.out); rintro e w37 ⟨v1000, rfl, ho0, hb⟩; refine ⟨_, rfl, ?_⟩; have n0_ := Aside0.mk (Kd.R_elder' zan15 (Kd.R_base ho0) hb); have n1_ := Aside0.mk (Kd.R_elder' zan17 (Kd.R_base ho0) hb); have n2_ := Aside0.mk (Kd.R_elder' zan19 (Kd.R_base ho0) hb); have n3_ := Aside0.mk (Kd.R_lower (Kd.R_new' (Kd.R_new' (Kd.R_new' ho0 (Kd.R_lt zan15)) (Kd.R_lt zan17)) (Kd.R_lt zan19)) (below_size zan5)); have n4_ := Aside0.mk (blk_below (g := gb980) (o := .cells #[.int .i64 a0_0, .int .i64 a0_1, .slice A0_2 l0_2.length c0_2] 24 (0, 0)) zan2 hb); have n5_ := Aside0.mk (blk_below (g := gb981) (o := .cells #[.int .i64 a1_0, .int .i64 a1_1] 26 (0, 0)) zan4 hb); have n6_ := Aside0.mk (below_step zan5 hb); clear HO987; clear HO992; clear HO995; clear BK980; clear BK981; clear HB; have HO987 := n0_; have HO992 := n1_; have HO995 := n2_; have HO1001 := n3_; have BK980 := n4_; have BK981 := n5_; have HB := n6_; clear n0_ n1_ n2_ n3_ n4_ n5_ n6_; (try clear hb); (try clear hb2); (try clear hk); (try clear hi); (try clear ho0); (try clear hna_); (try clear hnb_)) | ((with_reducible refine gate_dst (N := 12) rfl ?_); refine box_event ?hg (N := 12) ?hd (cs := #[.int .i64 0, .int .i64 0, .slice none 0 0]) (t := 30) ?hr ?_; (case hd => rfl); (case hg => rfl); (case hr => first | (go_simp; done) | (go_simp; rfl)); intro gb1002 hg w38 hbox hb; have n0_ := Aside0.mk (Kd.R_below zan15 hb); have n1_ := Aside0.mk (Kd.R_below zan17 hb); have n2_ := Aside0.mk (Kd.R_below zan19 hb); have n3_ := Aside0.mk (Kd.R_below zan30 hb); have n4_ := Aside0.mk (blk_below (g := gb980) (o := .cells #[.int .i64 a0_0, .int .i64 a0_1, .slice A0_2 l0_2.length c0_2] 24 (0, 0)) zan2 hb); have n5_ := Aside0.mk (blk_below (g := gb981) (o := .cells #[.int .i64 a1_0, .int .i64 a1_1] 26 (0, 0)) zan4 hb); have n6_ := Aside0.mk (below_step zan5 hb); have n7_ := Aside0.mk (hbox); have n8_ := Aside0.mk ((by rw [hg]; exact (below_size zan5) : w.heap.size ≤ gb1002)); have n9_ := Aside0.mk ((by rw [hg]; exact (below_size zan5) : w.heap.size ≤ gb1002)); have n10_ := Aside0.mk ((zan51 : gb980 ≠ gb1002)); have n11_ := Aside0.mk ((zan52 : gb1002 ≠ gb980)); have n12_ := Aside0.mk ((by rw [hg]; exact Nat.ne_of_lt (blk_lt (g := gb981) (o := .cells #[.int .i64 a1_0, .int .i64 a1_1] 26 (0, 0)) zan4) : gb981 ≠ gb1002)); have n13_ := Aside0.mk ((by rw [hg]; exact Nat.ne_of_gt (blk_lt (g := gb981) (o := .cells #[.int .i64 a1_0, .int .i64 a1_1] 26 (0, 0)) zan4) : gb1002 ≠ gb981)); clear HO987; clear HO992; clear HO995; clear HO1001; clear BK980; clear BK981; clear HB; have HO987 := n0_; have HO992 := n1_; have HO995 := n2_; have HO1001 := n3_; have BK980 := n4_; have BK981 := n5_; have HB := n6_; have BK1002 := n7_; have GW1002 := n8_; have GE1002 := n9_; have NB980_1002 := n10_; have NB1002_980 := n11_; have NB981_1002 := n12_; have NB1002_981 := n13_; clear n0_ n1_ n2_ n3_ n4_ n5_ n6_ n7_ n8_ n9_ n10_ n11_ n12_ n13_; clear hb hbox hg; have hnb39 := NB1002_980.out; have hnc39 := NB980_1002.out; have hnb40 := NB1002_981.out; have hnc40 := NB981_1002.out; have hcz41_0 : w38.cell? ⟨gb1002, 0, none⟩ = some (.int .i64 0) := (blk_cell BK1002.out 0).trans rfl; have hcz41_1 : w38.cell? ⟨gb1002, 1, none⟩ = some (.int .i64 0) := (blk_cell BK1002.out 1).trans rfl; have hcz41_2 : w38.cell? ⟨gb1002, 2, none⟩ = some (.slice none 0 0) := (blk_cell BK1002.out 2).trans rfl; have hfz41_0 := blk_frozen BK1002.out 0; have hfz41_1 := blk_frozen BK1002.out 1; have hfz41_2 := blk_frozen BK1002.out 2; obtain ⟨Ao42, co42, eo42⟩ := Kd.R_slice HO1001.out; subst eo42) | ((with_reducible refine gate_callee (f := 16) rfl ?_); refine goesL_ (some 43) rfl rfl Try.func16 (by kernel_rfl) rfl #[.slice A3 l3.length c3] rfl zan3 ?_; (with_reducible refine (laws_toIntS.calls k _ _ l3 t1003 _ ?side1 ?side2 A20.out).mono ?_); (case side1 => exact Kd.C_below HR3.out zan1); (case side2 => exact HC3.out); rintro e w43 ⟨v1004, rfl, ho0, hb⟩; refine ⟨_, rfl, ?_⟩; have n0_ := Aside0.mk (Kd.R_elder' zan26 (Kd.R_base ho0) hb); have n1_ := Aside0.mk (Kd.R_elder' zan25 (Kd.R_base ho0) hb); have n2_ := Aside0.mk (Kd.R_elder' zan24 (Kd.R_base ho0) hb); have n3_ := Aside0.mk (Kd.R_elder' zan23 (Kd.R_base ho0) hb); have n4_ := Aside0.mk (Kd.R_lower (Kd.R_new' (Kd.R_new' (Kd.R_new' (Kd.R_new' ho0 (Kd.R_lt zan26)) (Kd.R_lt zan25)) (Kd.R_lt zan24)) (Kd.R_lt zan23)) (below_size zan1)); have n5_ := Aside0.mk (blk_below (g := gb980) (o := .cells #[.int .i64 a0_0, .int .i64 a0_1, .slice A0_2 l0_2.length c0_2] 24 (0, 0)) (by (with_reducible repeat (first | refine blk_drewN ?_ _ | refine blk_drew ?_ | refine blk_alloc ?_ _)); refine blk_far ?_ NB980_1002.out _; (with_reducible repeat (first | refine blk_drewN ?_ _ | refine blk_drew ?_ | refine blk_alloc ?_ _)); refine blk_far ?_ NB980_1002.out _; (with_reducible repeat (first | refine blk_drewN ?_ _ | refine blk_drew ?_ | refine blk_alloc ?_ _)); refine blk_far ?_ NB980_1002.out _; first | exact BK980.out | ((with_reducible repeat (first | refine blk_drewN ?_ _ | refine blk_drew ?_ | refine blk_alloc ?_ _)); exact BK980.out)) hb); have n6_ := Aside0.mk (blk_below (g := gb981) (o := .cells #[.int .i64 a1_0, .int .i64 a1_1] 26 (0, 0)) (by (with_reducible repeat (first | refine blk_drewN ?_ _ | refine blk_drew ?_ | refine blk_alloc ?_ _)); refine blk_far ?_ NB981_1002.out _; (with_reducible repeat (first | refine blk_drewN ?_ _ | refine blk_drew ?_ | refine blk_alloc ?_ _)); refine blk_far ?_ NB981_1002.out _; (with_reducible repeat (first | refine blk_drewN ?_ _ | refine blk_drew ?_ | refine blk_alloc ?_ _)); refine blk_far ?_ NB981_1002.out _; first | exact BK981.out | ((with_reducible repeat (first | refine blk_drewN ?_ _ | refine blk_drew ?_ | refine blk_alloc ?_ _)); exact BK981.out)) hb); have n7_ := Aside0.mk (blk_below (g := gb1002) (o := .cells #[.int .i64 t997, .int .i64 t998, .slice Ao42 t999.length co42] 30 (0, 0)) (by (with_reducible repeat (first | refine blk_drewN ?_ _ | refine blk_drew ?_ | refine blk_alloc ?_ _)); refine blk_put (cs := #[.int .i64 t997, .int .i64 t998, .slice none 0 0]) ?_ 2 _ rfl; (with_reducible repeat (first | refine blk_drewN ?_ _ | refine blk_drew ?_ | refine blk_alloc ?_ _)); refine blk_put (cs := #[.int .i64 t997, .int .i64 0, .slice none 0 0]) ?_ 1 _ rfl; (with_reducible repeat (first | refine blk_drewN ?_ _ | refine blk_drew ?_ | refine blk_alloc ?_ _)); refine blk_put (cs := #[.int .i64 0, .int .i64 0, .slice none 0 0]) ?_ 0 _ rfl; first | exact BK1002.out | ((with_reducible repeat (first | refine blk_drewN ?_ _ | refine blk_drew ?_ | refine blk_alloc ?_ _)); exact BK1002.out)) hb); have n8_ := Aside0.mk (below_step zan1 hb); clear HO987; clear HO992; clear HO995; clear HO1001; clear BK980; clear BK981; clear BK1002; clear HB; have HO987 := n0_; have HO992 := n1_; have HO995 := n2_; have HO1001 := n3_; have HO1005 := n4_; have BK980 := n5_; have BK981 := n6_; have BK1002 := n7_; have HB := n8_; clear n0_ n1_ n2_ n3_ n4_ n5_ n6_ n7_ n8_; (try clear hb); (try clear hb2); (try clear hk); (try clear hi); (try clear ho0); (try clear hna_); (try clear hnb_)))
 have n0_ := Aside0.mk (Kd.R_drew HO987.out)
 have n1_ := Aside0.mk (Kd.R_drew HO992.out)
 have n2_ := Aside0.mk (Kd.R_drew HO995.out)
 have n3_ := Aside0.mk (Kd.R_drew HO1001.out)
 have n4_ := Aside0.mk (Kd.R_drew HO1005.out)
 have n5_ := Aside0.mk (blk_drew BK980.out)
 have n6_ := Aside0.mk (blk_drew BK981.out)
 have n7_ := Aside0.mk (blk_drew BK1002.out)
 have n8_ := Aside0.mk (below_drew1 HB.out)
 clear HO987
 clear HO992
 clear HO995
 clear HO1001
 clear HO1005
 clear BK980
 clear BK981
 clear BK1002
 clear HB
 have HO987 := n0_
 have HO992 := n1_
 have HO995 := n2_
 have HO1001 := n3_
 have HO1005 := n4_
 have BK980 := n5_
 have BK981 := n6_
 have BK1002 := n7_
 have HB := n8_
 clear n0_ n1_ n2_ n3_ n4_ n5_ n6_ n7_ n8_
 refine start_ (n := 11) (S := fun w' => w'.cell? ⟨gb1002, 0, none⟩ = some (.int .i64 t997) ∧ w'.cell? ⟨gb1002, 1, none⟩ = some (.int .i64 t998) ∧ w'.cell? ⟨gb1002, 2, none⟩ = some (.slice Ao42 t999.length co42) ∧ w'.cell? ⟨gb981, 0, none⟩ = some (.int .i64 a1_0) ∧ w'.cell? ⟨gb981, 1, none⟩ = some (.int .i64 a1_1)) (ds := []) #[false, false, false, false, false, false, false, false, false, false, false] (by kernel_rfl) rfl rfl ⟨(blk_cell BK1002.out 0).trans rfl, (blk_cell BK1002.out 1).trans rfl, (blk_cell BK1002.out 2).trans rfl, (blk_cell BK981.out 0).trans rfl, (blk_cell BK981.out 1).trans rfl⟩ (fun hHeld => ?_); refine with_tabW laws_FnExactWalkOfSteps.tab10 laws_FnExactWalkOfSteps.bits10 (fun HT_ HW_ => ?_)
 generalize w43.drew = w44 at HO987 HO992 HO995 HO1001 HO1005 BK980 BK981 BK1002 HB hHeld ⊢
 refine pure_ (i := 3) (N := some 48) (v := ?_) (a' := ?_) #[false, false, false, true, false, false, false, false, false, false, false] rfl rfl (any_of HT_.out (by kernel_rfl)) (fun _ _ _ h => h) (Or.inl ⟨by rfl, ?_⟩) ?_ ?_
 rotate_left
 ·intro w'
  go_simp
  with_reducible rfl
 rotate_left
 ·simp only [Act.put, List.setIfInBounds_toArray, List.set_cons_zero, List.set_cons_succ, i64_w, i32_w]
  rfl
 refine pure_ (i := 4) (N := some 49) (v := ?_) (a' := ?_) #[false, false, false, true, true, false, false, false, false, false, false] rfl rfl (any_of HT_.out (by kernel_rfl)) (fun _ _ _ h => h) (Or.inl ⟨by rfl, ?_⟩) ?_ ?_
 rotate_left
 ·intro w'
  go_simp
  with_reducible rfl
 rotate_left
 ·simp only [Act.put, List.setIfInBounds_toArray, List.set_cons_zero, List.set_cons_succ, i64_w, i32_w]
  rfl
 refine take_ (i := 0) (N := some 45) (v := ?_) (a' := ?_) #[true, false, false, true, true, false, false, false, false, false, false] rfl rfl (take_ofW HT_.out HW_.out (by kernel_rfl)) (fun _ _ _ h => h) (Or.inl ⟨by rfl, ?_⟩) hHeld ?_ ?_
 rotate_left
 ·rintro w' ⟨s0, s1, s2, s3, s4⟩
  go_simp
  with_reducible rfl
 rotate_left
 ·simp only [Act.put, List.setIfInBounds_toArray, List.set_cons_zero, List.set_cons_succ, i64_w, i32_w]
  rfl
 refine take_ (i := 1) (N := some 46) (v := ?_) (a' := ?_) #[true, true, false, true, true, false, false, false, false, false, false] rfl rfl (take_ofW HT_.out HW_.out (by kernel_rfl)) (fun _ _ _ h => h) (Or.inl ⟨by rfl, ?_⟩) hHeld ?_ ?_
 rotate_left
 ·rintro w' ⟨s0, s1, s2, s3, s4⟩
  go_simp
  with_reducible rfl
 rotate_left
 ·simp only [Act.put, List.setIfInBounds_toArray, List.set_cons_zero, List.set_cons_succ, i64_w, i32_w]
  rfl
 refine one_ (i := 2) (N := some 47) #[true, true, true, true, true, false, false, false, false, false, false] rfl rfl (one_of HT_.out (by kernel_rfl)) (by decide) (fun K hK => ?_)
 refine goes_ Try.func15 (by kernel_rfl) rfl #[.agg #[.int .i64 a1_0, .int .i64 a1_1]] (by rfl) rfl rfl zan3 ?_
 with_reducible refine (laws_toLeaper.calls a1_0 a1_1 t1006 t1007 _ A21.out).mono ?_
 rintro e w45 ⟨rfl, hb⟩
 refine ⟨_, rfl, ?_⟩
 have n0_ := Aside0.mk (Kd.R_below zan15 hb)
 have n1_ := Aside0.mk (Kd.R_below zan17 hb)
 have n2_ := Aside0.mk (Kd.R_below zan19 hb)
 have n3_ := Aside0.mk (Kd.R_below zan30 hb)
 have n4_ := Aside0.mk (Kd.R_below zan35 hb)
 have n5_ := Aside0.mk (blk_below (g := gb980) (o := .cells #[.int .i64 a0_0, .int .i64 a0_1, .slice A0_2 l0_2.length c0_2] 24 (0, 0)) zan2 hb)
 have n6_ := Aside0.mk (blk_below (g := gb981) (o := .cells #[.int .i64 a1_0, .int .i64 a1_1] 26 (0, 0)) zan4 hb)
 have n7_ := Aside0.mk (blk_below (g := gb1002) (o := .cells #[.int .i64 t997, .int .i64 t998, .slice Ao42 t999.length co42] 30 (0, 0)) zan6 hb)
 have n8_ := Aside0.mk (below_step zan1 hb)
 clear HO987
 clear HO992
 clear HO995
 clear HO1001
 clear HO1005
 clear BK980
 clear BK981
 clear BK1002
 clear HB
 have HO987 := n0_
 have HO992 := n1_
 have HO995 := n2_
 have HO1001 := n3_
 have HO1005 := n4_
 have BK980 := n5_
 have BK981 := n6_
 have BK1002 := n7_
 have HB := n8_
 clear n0_ n1_ n2_ n3_ n4_ n5_ n6_ n7_ n8_
 (try clear hb)
 (try clear hb2)
 (try clear hk)
 (try clear hi)
 (try clear hna_)
 (try clear hnb_)
 obtain ⟨Ao46, co46, eo46⟩ := Kd.R_slice HO1005.out
 (first | subst eo46 | (injection eo46 with f1_ f2_ f3_; have f4_ := f1_.symm; have f5_ := f3_.symm; clear f1_ f2_ f3_; subst f4_; subst f5_))
 refine hK.out _ _ ⟨(blk_cell BK1002.out 0).trans rfl, (blk_cell BK1002.out 1).trans rfl, (blk_cell BK1002.out 2).trans rfl, (blk_cell BK981.out 0).trans rfl, (blk_cell BK981.out 1).trans rfl⟩ (fun hHeld => ?_)
 clear hK K
 refine norm_ (a' := ?_) ?_ ?_
 rotate_left
 ·show Act.put _ (some 47) _ = _
  simp only [Act.put, List.setIfInBounds_toArray, List.set_cons_zero, List.set_cons_succ, i64_w, i32_w]
  rfl
 refine one_ (i := 5) (N := some 50) #[true, true, true, true, true, true, false, false, false, false, false] rfl rfl (one_of HT_.out (by kernel_rfl)) (by decide) (fun K hK => ?_)
 refine goes_ Try.func32 (by kernel_rfl) rfl #[.agg #[.int .i64 t997, .int .i64 t998, .slice Ao42 t999.length co42], .agg #[.int .i64 t1006, .int .i64 t1007], .int .i64 a2, .slice Ao46 t1003.length co46] (by rfl) rfl rfl zan3 ?_
 with_reducible refine (impl_WalkOfSteps.calls k t997 t998 _ _ t999 t1006 t1007 a2 _ _ t1003 t1008 t1011 _ ?side1 ?side2 ?side3 ?side4 A22.out).mono ?_
 (case side1 => repeat (first | exact (Kd.R_reads' HO1001.out).2.2 | (with_reducible refine Kd.C_alloc ?_ _) | (with_reducible refine Kd.C_drewN ?_ _) | (with_reducible refine Kd.C_drew ?_)))
 (case side2 => exact (Kd.R_reads' HO1001.out).2.1)
 (case side3 => repeat (first | exact (Kd.R_reads' HO1005.out).2.2 | (with_reducible refine Kd.C_alloc ?_ _) | (with_reducible refine Kd.C_drewN ?_ _) | (with_reducible refine Kd.C_drew ?_)))
 (case side4 => exact (Kd.R_reads' HO1005.out).2.1)
 rintro e w47 ⟨v1009, rfl, ho0, hb⟩
 refine ⟨_, rfl, ?_⟩
 have n0_ := Aside0.mk (Kd.R_elder' zan15 (Kd.R_base ho0) hb)
 have n1_ := Aside0.mk (Kd.R_elder' zan17 (Kd.R_base ho0) hb)
 have n2_ := Aside0.mk (Kd.R_elder' zan19 (Kd.R_base ho0) hb)
 have n3_ := Aside0.mk (Kd.R_elder' zan30 (Kd.R_base ho0) hb)
 have n4_ := Aside0.mk (Kd.R_elder' zan35 (Kd.R_base ho0) hb)
 have n5_ := Aside0.mk (Kd.R_lower (Kd.R_new' (Kd.R_new' (Kd.R_new' (Kd.R_new' (Kd.R_new' ho0 (Kd.R_lt zan15)) (Kd.R_lt zan17)) (Kd.R_lt zan19)) (Kd.R_lt zan30)) (Kd.R_lt zan35)) (below_size zan1))
 have n6_ := Aside0.mk (blk_below (g := gb980) (o := .cells #[.int .i64 a0_0, .int .i64 a0_1, .slice A0_2 l0_2.length c0_2] 24 (0, 0)) zan2 hb)
 have n7_ := Aside0.mk (blk_below (g := gb981) (o := .cells #[.int .i64 a1_0, .int .i64 a1_1] 26 (0, 0)) zan4 hb)
 have n8_ := Aside0.mk (blk_below (g := gb1002) (o := .cells #[.int .i64 t997, .int .i64 t998, .slice Ao42 t999.length co42] 30 (0, 0)) zan6 hb)
 have n9_ := Aside0.mk (below_step zan1 hb)
 clear HO987
 clear HO992
 clear HO995
 clear HO1001
 clear HO1005
 clear BK980
 clear BK981
 clear BK1002
 clear HB
 have HO987 := n0_
 have HO992 := n1_
 have HO995 := n2_
 have HO1001 := n3_
 have HO1005 := n4_
 have HO1010 := n5_
 have BK980 := n6_
 have BK981 := n7_
 have BK1002 := n8_
 have HB := n9_
 clear n0_ n1_ n2_ n3_ n4_ n5_ n6_ n7_ n8_ n9_
 (try clear hb)
 (try clear hb2)
 (try clear hk)
 (try clear hi)
 (try clear ho0)
 (try clear hna_)
 (try clear hnb_)
 refine hK.out _ _ ⟨(blk_cell BK1002.out 0).trans rfl, (blk_cell BK1002.out 1).trans rfl, (blk_cell BK1002.out 2).trans rfl, (blk_cell BK981.out 0).trans rfl, (blk_cell BK981.out 1).trans rfl⟩ (fun hHeld => ?_)
 clear hK K
 refine norm_ (a' := ?_) ?_ ?_
 rotate_left
 ·show Act.put _ (some 50) _ = _
  simp only [Act.put, List.setIfInBounds_toArray, List.set_cons_zero, List.set_cons_succ, i64_w, i32_w]
  rfl
 refine pure_ (i := 6) (N := some 44) (v := ?_) (a' := ?_) #[true, true, true, true, true, true, true, false, false, false, false] rfl rfl (any_of HT_.out (by kernel_rfl)) (fun _ _ _ h => h) (Or.inl ⟨by rfl, ?_⟩) ?_ ?_
 rotate_left
 ·intro w'
  go_simp
  with_reducible rfl
 rotate_left
 ·simp only [Act.put, List.setIfInBounds_toArray, List.set_cons_zero, List.set_cons_succ, i64_w, i32_w]
  rfl
 refine pure_ (i := 7) (N := some 51) (v := ?_) (a' := ?_) #[true, true, true, true, true, true, true, true, false, false, false] rfl rfl (any_of HT_.out (by kernel_rfl)) (fun _ _ _ h => h) (Or.inl ⟨by rfl, ?_⟩) ?_ ?_
 rotate_left
 ·intro w'
  go_simp
  with_reducible rfl
 rotate_left
 ·simp only [Act.put, List.setIfInBounds_toArray, List.set_cons_zero, List.set_cons_succ, i64_w, i32_w]
  rfl
 refine pure_ (i := 8) (N := some 52) (v := ?_) (a' := ?_) #[true, true, true, true, true, true, true, true, true, false, false] rfl rfl (any_of HT_.out (by kernel_rfl)) (fun _ _ _ h => h) (Or.inl ⟨by rfl, ?_⟩) ?_ ?_
 rotate_left
 ·intro w'
  go_simp
  with_reducible rfl
 rotate_left
 ·simp only [Act.put, List.setIfInBounds_toArray, List.set_cons_zero, List.set_cons_succ, i64_w, i32_w]
  rfl
 refine pure_ (i := 9) (N := some 14) (v := ?_) (a' := ?_) #[true, true, true, true, true, true, true, true, true, true, false] rfl rfl (any_of HT_.out (by kernel_rfl)) (fun _ _ _ h => h) (Or.inl ⟨by rfl, ?_⟩) ?_ ?_
 rotate_left
 ·intro w'
  go_simp
  with_reducible rfl
 rotate_left
 ·simp only [Act.put, List.setIfInBounds_toArray, List.set_cons_zero, List.set_cons_succ, i64_w, i32_w]
  rfl
 refine pure_ (i := 10) (N := some 15) (v := ?_) (a' := ?_) #[true, true, true, true, true, true, true, true, true, true, true] rfl rfl (any_of HT_.out (by kernel_rfl)) (fun _ _ _ h => h) (Or.inl ⟨by rfl, ?_⟩) ?_ ?_
 rotate_left
 ·intro w'
  go_simp
  with_reducible rfl
 rotate_left
 ·simp only [Act.put, List.setIfInBounds_toArray, List.set_cons_zero, List.set_cons_succ, i64_w, i32_w]
  rfl
 refine done_ (done_of HT_.out (by kernel_rfl)) ?_
 go_upto_region 11 with (fail)
 go_cut [61] (fun v61 wc => ∃ (kq : Nat) (x61_22 : Bool), v61 = .bool x61_22 ∧ Aside0 (laws_FnExactWalkOfSteps.j0 kq a2 l3 t993 t996 t1003 t1008 t1011 x61_22 a0_0 a0_1 l0_2 a1_0 a1_1 t997 t998 t999 = some r) ∧ Aside0 (kq ≤ k) ∧ Aside0 (Kd.R (Kd.int .i64) 3 wc w.heap.size (fun k_ => some k_ ≠ ((.slice Ao46 t1003.length co46) : Value).ownBlock ∧ some k_ ≠ (v1009 : Value).ownBlock ∧ some k_ ≠ ((.slice Ao42 t999.length co42) : Value).ownBlock) v994 t993) ∧ Aside0 (Kd.R (Kd.int .i64) 3 wc w.heap.size (fun k_ => some k_ ≠ (v994 : Value).ownBlock ∧ some k_ ≠ (v1009 : Value).ownBlock ∧ some k_ ≠ ((.slice Ao42 t999.length co42) : Value).ownBlock) (.slice Ao46 t1003.length co46) t1003) ∧ Aside0 (Kd.R (Kd.int .i64) 3 wc w.heap.size (fun k_ => some k_ ≠ (v994 : Value).ownBlock ∧ some k_ ≠ ((.slice Ao46 t1003.length co46) : Value).ownBlock ∧ some k_ ≠ ((.slice Ao42 t999.length co42) : Value).ownBlock) v1009 t1008) ∧ Aside0 (Kd.R (Kd.int .i64) 3 wc w.heap.size (fun k_ => some k_ ≠ (v994 : Value).ownBlock ∧ some k_ ≠ ((.slice Ao46 t1003.length co46) : Value).ownBlock ∧ some k_ ≠ (v1009 : Value).ownBlock) (.slice Ao42 t999.length co42) t999) ∧ Aside0 (wc.heap[gb980]? = some (.cells #[.int .i64 a0_0, .int .i64 a0_1, (.slice A0_2 l0_2.length c0_2)] 24 (0, 0))) ∧ Aside0 (wc.heap[gb981]? = some (.cells #[.int .i64 a1_0, .int .i64 a1_1] 26 (0, 0))) ∧ Aside0 (wc.heap[gb1002]? = some (.cells #[.int .i64 t997, .int .i64 t998, (.slice Ao42 t999.length co42)] 30 (0, 0))) ∧ Aside0 (Below w.heap.size w wc))
 case first =>
  have H := HC23.out
  clear HC23
  replace H := Option.bind_eq_some_iff.mp H
  obtain ⟨t1012, A480, H⟩ := H
  replace H : (if t1012 = true then (laws_FnExactWalkOfSteps.j0 k a2 l3 t993 t996 t1003 t1008 t1011 (t1011 != t996) a0_0 a0_1 l0_2 a1_0 a1_1 t997 t998 t999) else (laws_FnExactWalkOfSteps.j0 k a2 l3 t993 t996 t1003 t1008 t1011 true a0_0 a0_1 l0_2 a1_0 a1_1 t997 t998 t999)) = some r := H
  have A48 := Aside0.mk A480
  clear A480
  by_cases c49 : t1012 = true
  ·subst c49
   have H1 : (laws_FnExactWalkOfSteps.j0 k a2 l3 t993 t996 t1003 t1008 t1011 (t1011 != t996) a0_0 a0_1 l0_2 a1_0 a1_1 t997 t998 t999) = some r := by rw [if_pos rfl] at H; exact H
   clear H
   have H := H1
   clear H1
   have H' := Aside0.mk H
   clear H
   obtain ⟨Ao50, co50, eo50⟩ := Kd.R_slice HO1010.out
   subst eo50
   obtain ⟨Ao51, co51, eo51⟩ := Kd.R_slice HO995.out
   subst eo51
   go_wp2_with (first | ((with_reducible refine gate_callee (f := 18) rfl ?_); refine goesL_ (some 55) rfl rfl Try.func18 (by kernel_rfl) rfl #[.slice Ao50 t1008.length co50, .slice Ao51 t993.length co51] rfl zan3 ?_; (with_reducible refine (laws_eqIntS.calls k _ _ t1008 _ _ t993 true _ ?side1 ?side2 ?side3 ?side4 A48.out).mono ?_); (case side1 => exact zan45); (case side2 => exact (Kd.R_reads' HO1010.out).2.1); (case side3 => exact zan47); (case side4 => exact (Kd.R_reads' HO995.out).2.1); rintro e w' ⟨rfl, ⟨nd, rfl⟩⟩; refine ⟨_, rfl, ?_⟩))
   go_meet
   case rel => exact ⟨_, ((t1011 != t996)), zan34, H', ⟨by first | omega | exact Nat.le_refl _⟩, ⟨zan42⟩, ⟨zan40⟩, ⟨zan39⟩, ⟨zan41⟩, ⟨zan2⟩, ⟨zan4⟩, ⟨zan6⟩, ⟨zan1⟩⟩
  replace c49 := Bool.eq_false_iff.mpr c49
  subst c49
  have H1 : (laws_FnExactWalkOfSteps.j0 k a2 l3 t993 t996 t1003 t1008 t1011 true a0_0 a0_1 l0_2 a1_0 a1_1 t997 t998 t999) = some r := by rw [if_neg (show ¬ (false = true) by decide)] at H; exact H
  clear H
  have H := H1
  clear H1
  have H' := Aside0.mk H
  clear H
  obtain ⟨Ao52, co52, eo52⟩ := Kd.R_slice HO1010.out
  subst eo52
  obtain ⟨Ao53, co53, eo53⟩ := Kd.R_slice HO995.out
  subst eo53
  go_wp2_with (first | ((with_reducible refine gate_callee (f := 18) rfl ?_); refine goesL_ (some 55) rfl rfl Try.func18 (by kernel_rfl) rfl #[.slice Ao52 t1008.length co52, .slice Ao53 t993.length co53] rfl zan3 ?_; (with_reducible refine (laws_eqIntS.calls k _ _ t1008 _ _ t993 false _ ?side1 ?side2 ?side3 ?side4 A48.out).mono ?_); (case side1 => exact zan45); (case side2 => exact (Kd.R_reads' HO1010.out).2.1); (case side3 => exact zan47); (case side4 => exact (Kd.R_reads' HO995.out).2.1); rintro e w' ⟨rfl, ⟨nd, rfl⟩⟩; refine ⟨_, rfl, ?_⟩))
  go_meet
  case rel => exact ⟨_, (true), zan34, H', ⟨by first | omega | exact Nat.le_refl _⟩, ⟨zan42⟩, ⟨zan40⟩, ⟨zan39⟩, ⟨zan41⟩, ⟨zan2⟩, ⟨zan4⟩, ⟨zan6⟩, ⟨zan1⟩⟩
 case rest =>
  clear HC23
  try clear c1; try clear c2; try clear p2; try clear c3; try clear c4; try clear c5; try clear c5b0; try clear c5b1; try clear c8; try clear c9; try clear c9b0; try clear c12; try clear c14; try clear c15; try clear c16; try clear c18; try clear c26; try clear c31; try clear c32; try clear c39; try clear c40; try clear c49; try clear hcz13_0; try clear hcz13_1; try clear hcz13_2; try clear hcz27_0; try clear hcz27_1; try clear hcz27_2; try clear hcz36_0; try clear hcz36_1; try clear hcz36_2; try clear hcz41_0; try clear hcz41_1; try clear hcz41_2; try clear hfz13_0; try clear hfz13_1; try clear hfz13_2
  try clear hfz27_0; try clear hfz27_1; try clear hfz27_2; try clear hfz36_0; try clear hfz36_1; try clear hfz36_2; try clear hfz41_0; try clear hfz41_1; try clear hfz41_2
  obtain ⟨kq, x61_22, rfl, HA, HJ22, HO_10, HO_13, HO_14, HO_1003002, BK980, BK981, BK1002, HB⟩ := hcut
  cases kq with
  | zero => exact absurd HA.out (by simp [laws_FnExactWalkOfSteps.j0])
  | succ kj22 =>
   have H := HA.out
   clear HA
   simp only [laws_FnExactWalkOfSteps.j0] at H
   by_cases c54 : x61_22 = true
   ·subst c54
    have H1 : (some false) = some r := by rw [if_pos rfl] at H; exact H
    clear H
    have H := H1
    clear H1
    obtain rfl := Option.some.inj H
    go_wp2
    go_ret
    exact ⟨zan16, zan1⟩
   replace c54 := Bool.eq_false_iff.mpr c54
   subst c54
   have H1 : ((laws_toBoard.f kj22 a0_0 a0_1 l0_2).bind fun bt1013 => ((laws_eqBoard.f kj22 t997 t998 t999 bt1013.1 bt1013.2.1 bt1013.2.2).bind fun t1018 => (if t1018 = true then ((laws_toIntS.f kj22 l3).bind fun t1019 => ((laws_eqIntS.f kj22 t1003 t1019).bind fun t1022 => (if t1022 = true then ((laws_markBoard.f kj22 t997 t998 t999 1).bind fun bt1023 => ((laws_markIntS.f kj22 t1003 bt1023.1).bind fun bt1025 => (if bt1025.1 < 0 then (laws_FnExactWalkOfSteps.j1 kj22 a2 l3 t993 t996 t1008 true a0_0 a0_1 l0_2 a1_0 a1_1) else ((laws_eqIntS.f kj22 t1008 t993).bind fun t1027 => (if t1027 = true then (laws_FnExactWalkOfSteps.j1 kj22 a2 l3 t993 t996 t1008 (t1011 != t996) a0_0 a0_1 l0_2 a1_0 a1_1) else (laws_FnExactWalkOfSteps.j1 kj22 a2 l3 t993 t996 t1008 true a0_0 a0_1 l0_2 a1_0 a1_1)))))) else (some false)))) else (some false)))) = some r := by rw [if_neg (show ¬ (false = true) by decide)] at H; exact H
   clear H
   have H := H1
   clear H1
   replace H := Option.bind_eq_some_iff.mp H
   obtain ⟨⟨t1013, t1014, t1015⟩, A550, H⟩ := H
   replace H : ((laws_eqBoard.f kj22 t997 t998 t999 t1013 t1014 t1015).bind fun t1018 => (if t1018 = true then ((laws_toIntS.f kj22 l3).bind fun t1019 => ((laws_eqIntS.f kj22 t1003 t1019).bind fun t1022 => (if t1022 = true then ((laws_markBoard.f kj22 t997 t998 t999 1).bind fun bt1023 => ((laws_markIntS.f kj22 t1003 bt1023.1).bind fun bt1025 => (if bt1025.1 < 0 then (laws_FnExactWalkOfSteps.j1 kj22 a2 l3 t993 t996 t1008 true a0_0 a0_1 l0_2 a1_0 a1_1) else ((laws_eqIntS.f kj22 t1008 t993).bind fun t1027 => (if t1027 = true then (laws_FnExactWalkOfSteps.j1 kj22 a2 l3 t993 t996 t1008 (t1011 != t996) a0_0 a0_1 l0_2 a1_0 a1_1) else (laws_FnExactWalkOfSteps.j1 kj22 a2 l3 t993 t996 t1008 true a0_0 a0_1 l0_2 a1_0 a1_1)))))) else (some false)))) else (some false))) = some r := H
   have A55 := Aside0.mk A550
   clear A550
   replace H := Option.bind_eq_some_iff.mp H
   obtain ⟨t1018, A560, H⟩ := H
   replace H : (if t1018 = true then ((laws_toIntS.f kj22 l3).bind fun t1019 => ((laws_eqIntS.f kj22 t1003 t1019).bind fun t1022 => (if t1022 = true then ((laws_markBoard.f kj22 t997 t998 t999 1).bind fun bt1023 => ((laws_markIntS.f kj22 t1003 bt1023.1).bind fun bt1025 => (if bt1025.1 < 0 then (laws_FnExactWalkOfSteps.j1 kj22 a2 l3 t993 t996 t1008 true a0_0 a0_1 l0_2 a1_0 a1_1) else ((laws_eqIntS.f kj22 t1008 t993).bind fun t1027 => (if t1027 = true then (laws_FnExactWalkOfSteps.j1 kj22 a2 l3 t993 t996 t1008 (t1011 != t996) a0_0 a0_1 l0_2 a1_0 a1_1) else (laws_FnExactWalkOfSteps.j1 kj22 a2 l3 t993 t996 t1008 true a0_0 a0_1 l0_2 a1_0 a1_1)))))) else (some false)))) else (some false)) = some r := H
   have A56 := Aside0.mk A560
   clear A560
   by_cases c57 : t1018 = true
   rotate_left
   ·replace c57 := Bool.eq_false_iff.mpr c57
    subst c57
    have H1 : (some false) = some r := by rw [if_neg (show ¬ (false = true) by decide)] at H; exact H
    clear H
    have H := H1
    clear H1
    obtain rfl := Option.some.inj H
    try go_wp2
    have n0_ := Aside0.mk (Kd.R_drew HO_10.out)
    have n1_ := Aside0.mk (Kd.R_drew HO_13.out)
    have n2_ := Aside0.mk (Kd.R_drew HO_14.out)
    have n3_ := Aside0.mk (Kd.R_drew HO_1003002.out)
    have n4_ := Aside0.mk (blk_drew BK980.out)
    have n5_ := Aside0.mk (blk_drew BK981.out)
    have n6_ := Aside0.mk (blk_drew BK1002.out)
    have n7_ := Aside0.mk (below_drew1 HB.out)
    clear HO_10
    clear HO_13
    clear HO_14
    clear HO_1003002
    clear BK980
    clear BK981
    clear BK1002
    clear HB
    have HO_10 := n0_
    have HO_13 := n1_
    have HO_14 := n2_
    have HO_1003002 := n3_
    have BK980 := n4_
    have BK981 := n5_
    have BK1002 := n6_
    have HB := n7_
    clear n0_ n1_ n2_ n3_ n4_ n5_ n6_ n7_
    refine start_ (n := 5) (S := fun w' => w'.cell? ⟨gb1002, 0, none⟩ = some (.int .i64 t997) ∧ w'.cell? ⟨gb1002, 1, none⟩ = some (.int .i64 t998) ∧ w'.cell? ⟨gb1002, 2, none⟩ = some (.slice Ao42 t999.length co42) ∧ w'.cell? ⟨gb980, 0, none⟩ = some (.int .i64 a0_0) ∧ w'.cell? ⟨gb980, 1, none⟩ = some (.int .i64 a0_1) ∧ w'.cell? ⟨gb980, 2, none⟩ = some (.slice A0_2 l0_2.length c0_2)) (ds := []) #[false, false, false, false, false] (by kernel_rfl) rfl rfl ⟨(blk_cell BK1002.out 0).trans rfl, (blk_cell BK1002.out 1).trans rfl, (blk_cell BK1002.out 2).trans rfl, (blk_cell BK980.out 0).trans rfl, (blk_cell BK980.out 1).trans rfl, (blk_cell BK980.out 2).trans rfl⟩ (fun hHeld => ?_)
    generalize wc.drew = w121 at HO_10 HO_13 HO_14 HO_1003002 BK980 BK981 BK1002 HB hHeld ⊢
    refine take_ (i := 0) (N := some 62) (v := ?_) (a' := ?_) #[true, false, false, false, false] rfl rfl (by kernel_rfl) (fun _ _ _ h => h) (Or.inl ⟨by rfl, ?_⟩) hHeld ?_ ?_
    rotate_left
    ·rintro w' ⟨s0, s1, s2, s3, s4, s5⟩
     go_simp
     with_reducible rfl
    rotate_left
    ·simp only [Act.put, List.setIfInBounds_toArray, List.set_cons_zero, List.set_cons_succ, i64_w, i32_w]
     rfl
    refine take_ (i := 1) (N := some 63) (v := ?_) (a' := ?_) #[true, true, false, false, false] rfl rfl (by kernel_rfl) (fun _ _ _ h => h) (Or.inl ⟨by rfl, ?_⟩) hHeld ?_ ?_
    rotate_left
    ·rintro w' ⟨s0, s1, s2, s3, s4, s5⟩
     go_simp
     with_reducible rfl
    rotate_left
    ·simp only [Act.put, List.setIfInBounds_toArray, List.set_cons_zero, List.set_cons_succ, i64_w, i32_w]
     rfl
    refine one_ (i := 2) (N := some 64) #[true, true, true, false, false] rfl rfl (by kernel_rfl) (by decide) (fun K hK => ?_)
    refine goes_ Try.func14 (by kernel_rfl) rfl #[.agg #[.int .i64 a0_0, .int .i64 a0_1, .slice A0_2 l0_2.length c0_2]] (by rfl) rfl rfl zan3 ?_
    with_reducible refine (laws_toBoard.calls kj22 a0_0 a0_1 _ _ l0_2 t1013 t1014 t1015 _ ?side1 ?side2 A55.out).mono ?_
    (case side1 => exact zan12)
    (case side2 => exact HC0_2.out)
    rintro e w122 ⟨v1016, rfl, ho0, hb⟩
    refine ⟨_, rfl, ?_⟩
    have n0_ := Aside0.mk (Kd.R_elder' zan9 (Kd.R_base ho0) hb)
    have n1_ := Aside0.mk (Kd.R_elder' zan11 (Kd.R_base ho0) hb)
    have n2_ := Aside0.mk (Kd.R_elder' zan8 (Kd.R_base ho0) hb)
    have n3_ := Aside0.mk (Kd.R_elder' zan7 (Kd.R_base ho0) hb)
    have n4_ := Aside0.mk (Kd.R_lower (Kd.R_new' (Kd.R_new' (Kd.R_new' (Kd.R_new' ho0 (Kd.R_lt zan9)) (Kd.R_lt zan11)) (Kd.R_lt zan8)) (Kd.R_lt zan7)) (below_size zan1))
    have n5_ := Aside0.mk (blk_below (g := gb980) (o := .cells #[.int .i64 a0_0, .int .i64 a0_1, .slice A0_2 l0_2.length c0_2] 24 (0, 0)) zan2 hb)
    have n6_ := Aside0.mk (blk_below (g := gb981) (o := .cells #[.int .i64 a1_0, .int .i64 a1_1] 26 (0, 0)) zan4 hb)
    have n7_ := Aside0.mk (blk_below (g := gb1002) (o := .cells #[.int .i64 t997, .int .i64 t998, .slice Ao42 t999.length co42] 30 (0, 0)) zan6 hb)
    have n8_ := Aside0.mk (below_step zan1 hb)
    clear HO_10
    clear HO_13
    clear HO_14
    clear HO_1003002
    clear BK980
    clear BK981
    clear BK1002
    clear HB
    have HO_10 := n0_
    have HO_13 := n1_
    have HO_14 := n2_
    have HO_1003002 := n3_
    have HO1017 := n4_
    have BK980 := n5_
    have BK981 := n6_
    have BK1002 := n7_
    have HB := n8_
    clear n0_ n1_ n2_ n3_ n4_ n5_ n6_ n7_ n8_
    (try clear hb)
    (try clear hb2)
    (try clear hk)
    (try clear hi)
    (try clear ho0)
    (try clear hna_)
    (try clear hnb_)
    obtain ⟨Ao123, co123, eo123⟩ := Kd.R_slice HO1017.out
    (first | subst eo123 | (injection eo123 with f1_ f2_ f3_; have f4_ := f1_.symm; have f5_ := f3_.symm; clear f1_ f2_ f3_; subst f4_; subst f5_))
    refine hK.out _ _ ⟨(blk_cell BK1002.out 0).trans rfl, (blk_cell BK1002.out 1).trans rfl, (blk_cell BK1002.out 2).trans rfl, (blk_cell BK980.out 0).trans rfl, (blk_cell BK980.out 1).trans rfl, (blk_cell BK980.out 2).trans rfl⟩ (fun hHeld => ?_)
    clear hK K
    refine norm_ (a' := ?_) ?_ ?_
    rotate_left
    ·show Act.put _ (some 64) _ = _
     simp only [Act.put, List.setIfInBounds_toArray, List.set_cons_zero, List.set_cons_succ, i64_w, i32_w]
     rfl
    refine one_ (i := 3) (N := some 65) #[true, true, true, true, false] rfl rfl (by kernel_rfl) (by decide) (fun K hK => ?_)
    refine goes_ Try.func19 (by kernel_rfl) rfl #[.agg #[.int .i64 t997, .int .i64 t998, .slice Ao42 t999.length co42], .agg #[.int .i64 t1013, .int .i64 t1014, .slice Ao123 t1015.length co123]] (by rfl) rfl rfl zan3 ?_
    with_reducible refine (laws_eqBoard.calls kj22 t997 t998 _ _ t999 t1013 t1014 _ _ t1015 false _ ?side1 ?side2 ?side3 ?side4 A56.out).mono ?_
    (case side1 => exact zan28)
    (case side2 => exact (Kd.R_reads' HO_1003002.out).2.1)
    (case side3 => exact zan29)
    (case side4 => exact (Kd.R_reads' HO1017.out).2.1)
    rintro e w124 ⟨rfl, hb⟩
    refine ⟨_, rfl, ?_⟩
    have n0_ := Aside0.mk (Kd.R_below zan9 hb)
    have n1_ := Aside0.mk (Kd.R_below zan11 hb)
    have n2_ := Aside0.mk (Kd.R_below zan8 hb)
    have n3_ := Aside0.mk (Kd.R_below zan7 hb)
    have n4_ := Aside0.mk (Kd.R_below zan18 hb)
    have n5_ := Aside0.mk (blk_below (g := gb980) (o := .cells #[.int .i64 a0_0, .int .i64 a0_1, .slice A0_2 l0_2.length c0_2] 24 (0, 0)) zan2 hb)
    have n6_ := Aside0.mk (blk_below (g := gb981) (o := .cells #[.int .i64 a1_0, .int .i64 a1_1] 26 (0, 0)) zan4 hb)
    have n7_ := Aside0.mk (blk_below (g := gb1002) (o := .cells #[.int .i64 t997, .int .i64 t998, .slice Ao42 t999.length co42] 30 (0, 0)) zan6 hb)
    have n8_ := Aside0.mk (below_step zan1 hb)
    clear HO_10
    clear HO_13
    clear HO_14
    clear HO_1003002
    clear HO1017
    clear BK980
    clear BK981
    clear BK1002
    clear HB
    have HO_10 := n0_
    have HO_13 := n1_
    have HO_14 := n2_
    have HO_1003002 := n3_
    have HO1017 := n4_
    have BK980 := n5_
    have BK981 := n6_
    have BK1002 := n7_
    have HB := n8_
    clear n0_ n1_ n2_ n3_ n4_ n5_ n6_ n7_ n8_
    (try clear hb)
    (try clear hb2)
    (try clear hk)
    (try clear hi)
    (try clear hna_)
    (try clear hnb_)
    refine hK.out _ _ ⟨(blk_cell BK1002.out 0).trans rfl, (blk_cell BK1002.out 1).trans rfl, (blk_cell BK1002.out 2).trans rfl, (blk_cell BK980.out 0).trans rfl, (blk_cell BK980.out 1).trans rfl, (blk_cell BK980.out 2).trans rfl⟩ (fun hHeld => ?_)
    clear hK K
    refine norm_ (a' := ?_) ?_ ?_
    rotate_left
    ·show Act.put _ (some 65) _ = _
     simp only [Act.put, List.setIfInBounds_toArray, List.set_cons_zero, List.set_cons_succ, i64_w, i32_w]
     rfl
    refine pure_ (i := 4) (N := some 66) (v := ?_) (a' := ?_) #[true, true, true, true, true] rfl rfl (by kernel_rfl) (fun _ _ _ h => h) (Or.inl ⟨by rfl, ?_⟩) ?_ ?_
    rotate_left
    ·intro w'
     go_simp
     with_reducible rfl
    rotate_left
    ·simp only [Act.put, List.setIfInBounds_toArray, List.set_cons_zero, List.set_cons_succ, i64_w, i32_w]
     rfl
    refine done_ (by kernel_rfl) ?_
    try go_wp2
    go_ret
    exact ⟨zan16, zan1⟩
   subst c57
   have H1 : ((laws_toIntS.f kj22 l3).bind fun t1019 => ((laws_eqIntS.f kj22 t1003 t1019).bind fun t1022 => (if t1022 = true then ((laws_markBoard.f kj22 t997 t998 t999 1).bind fun bt1023 => ((laws_markIntS.f kj22 t1003 bt1023.1).bind fun bt1025 => (if bt1025.1 < 0 then (laws_FnExactWalkOfSteps.j1 kj22 a2 l3 t993 t996 t1008 true a0_0 a0_1 l0_2 a1_0 a1_1) else ((laws_eqIntS.f kj22 t1008 t993).bind fun t1027 => (if t1027 = true then (laws_FnExactWalkOfSteps.j1 kj22 a2 l3 t993 t996 t1008 (t1011 != t996) a0_0 a0_1 l0_2 a1_0 a1_1) else (laws_FnExactWalkOfSteps.j1 kj22 a2 l3 t993 t996 t1008 true a0_0 a0_1 l0_2 a1_0 a1_1)))))) else (some false)))) = some r := by rw [if_pos rfl] at H; exact H
   clear H
   have H := H1
   clear H1
   replace H := Option.bind_eq_some_iff.mp H
   obtain ⟨t1019, A580, H⟩ := H
   replace H : ((laws_eqIntS.f kj22 t1003 t1019).bind fun t1022 => (if t1022 = true then ((laws_markBoard.f kj22 t997 t998 t999 1).bind fun bt1023 => ((laws_markIntS.f kj22 t1003 bt1023.1).bind fun bt1025 => (if bt1025.1 < 0 then (laws_FnExactWalkOfSteps.j1 kj22 a2 l3 t993 t996 t1008 true a0_0 a0_1 l0_2 a1_0 a1_1) else ((laws_eqIntS.f kj22 t1008 t993).bind fun t1027 => (if t1027 = true then (laws_FnExactWalkOfSteps.j1 kj22 a2 l3 t993 t996 t1008 (t1011 != t996) a0_0 a0_1 l0_2 a1_0 a1_1) else (laws_FnExactWalkOfSteps.j1 kj22 a2 l3 t993 t996 t1008 true a0_0 a0_1 l0_2 a1_0 a1_1)))))) else (some false))) = some r := H
   have A58 := Aside0.mk A580
   clear A580
   replace H := Option.bind_eq_some_iff.mp H
   obtain ⟨t1022, A590, H⟩ := H
   replace H : (if t1022 = true then ((laws_markBoard.f kj22 t997 t998 t999 1).bind fun bt1023 => ((laws_markIntS.f kj22 t1003 bt1023.1).bind fun bt1025 => (if bt1025.1 < 0 then (laws_FnExactWalkOfSteps.j1 kj22 a2 l3 t993 t996 t1008 true a0_0 a0_1 l0_2 a1_0 a1_1) else ((laws_eqIntS.f kj22 t1008 t993).bind fun t1027 => (if t1027 = true then (laws_FnExactWalkOfSteps.j1 kj22 a2 l3 t993 t996 t1008 (t1011 != t996) a0_0 a0_1 l0_2 a1_0 a1_1) else (laws_FnExactWalkOfSteps.j1 kj22 a2 l3 t993 t996 t1008 true a0_0 a0_1 l0_2 a1_0 a1_1)))))) else (some false)) = some r := H
   have A59 := Aside0.mk A590
   clear A590
   by_cases c60 : t1022 = true
   rotate_left
   ·replace c60 := Bool.eq_false_iff.mpr c60
    subst c60
    have H1 : (some false) = some r := by rw [if_neg (show ¬ (false = true) by decide)] at H; exact H
    clear H
    have H := H1
    clear H1
    obtain rfl := Option.some.inj H
    try go_wp2
    have n0_ := Aside0.mk (Kd.R_drew HO_10.out)
    have n1_ := Aside0.mk (Kd.R_drew HO_13.out)
    have n2_ := Aside0.mk (Kd.R_drew HO_14.out)
    have n3_ := Aside0.mk (Kd.R_drew HO_1003002.out)
    have n4_ := Aside0.mk (blk_drew BK980.out)
    have n5_ := Aside0.mk (blk_drew BK981.out)
    have n6_ := Aside0.mk (blk_drew BK1002.out)
    have n7_ := Aside0.mk (below_drew1 HB.out)
    clear HO_10
    clear HO_13
    clear HO_14
    clear HO_1003002
    clear BK980
    clear BK981
    clear BK1002
    clear HB
    have HO_10 := n0_
    have HO_13 := n1_
    have HO_14 := n2_
    have HO_1003002 := n3_
    have BK980 := n4_
    have BK981 := n5_
    have BK1002 := n6_
    have HB := n7_
    clear n0_ n1_ n2_ n3_ n4_ n5_ n6_ n7_
    refine start_ (n := 5) (S := fun w' => w'.cell? ⟨gb1002, 0, none⟩ = some (.int .i64 t997) ∧ w'.cell? ⟨gb1002, 1, none⟩ = some (.int .i64 t998) ∧ w'.cell? ⟨gb1002, 2, none⟩ = some (.slice Ao42 t999.length co42) ∧ w'.cell? ⟨gb980, 0, none⟩ = some (.int .i64 a0_0) ∧ w'.cell? ⟨gb980, 1, none⟩ = some (.int .i64 a0_1) ∧ w'.cell? ⟨gb980, 2, none⟩ = some (.slice A0_2 l0_2.length c0_2)) (ds := []) #[false, false, false, false, false] (by kernel_rfl) rfl rfl ⟨(blk_cell BK1002.out 0).trans rfl, (blk_cell BK1002.out 1).trans rfl, (blk_cell BK1002.out 2).trans rfl, (blk_cell BK980.out 0).trans rfl, (blk_cell BK980.out 1).trans rfl, (blk_cell BK980.out 2).trans rfl⟩ (fun hHeld => ?_)
    generalize wc.drew = w115 at HO_10 HO_13 HO_14 HO_1003002 BK980 BK981 BK1002 HB hHeld ⊢
    refine take_ (i := 0) (N := some 62) (v := ?_) (a' := ?_) #[true, false, false, false, false] rfl rfl (by kernel_rfl) (fun _ _ _ h => h) (Or.inl ⟨by rfl, ?_⟩) hHeld ?_ ?_
    rotate_left
    ·rintro w' ⟨s0, s1, s2, s3, s4, s5⟩
     go_simp
     with_reducible rfl
    rotate_left
    ·simp only [Act.put, List.setIfInBounds_toArray, List.set_cons_zero, List.set_cons_succ, i64_w, i32_w]
     rfl
    refine take_ (i := 1) (N := some 63) (v := ?_) (a' := ?_) #[true, true, false, false, false] rfl rfl (by kernel_rfl) (fun _ _ _ h => h) (Or.inl ⟨by rfl, ?_⟩) hHeld ?_ ?_
    rotate_left
    ·rintro w' ⟨s0, s1, s2, s3, s4, s5⟩
     go_simp
     with_reducible rfl
    rotate_left
    ·simp only [Act.put, List.setIfInBounds_toArray, List.set_cons_zero, List.set_cons_succ, i64_w, i32_w]
     rfl
    refine one_ (i := 2) (N := some 64) #[true, true, true, false, false] rfl rfl (by kernel_rfl) (by decide) (fun K hK => ?_)
    refine goes_ Try.func14 (by kernel_rfl) rfl #[.agg #[.int .i64 a0_0, .int .i64 a0_1, .slice A0_2 l0_2.length c0_2]] (by rfl) rfl rfl zan3 ?_
    with_reducible refine (laws_toBoard.calls kj22 a0_0 a0_1 _ _ l0_2 t1013 t1014 t1015 _ ?side1 ?side2 A55.out).mono ?_
    (case side1 => exact zan12)
    (case side2 => exact HC0_2.out)
    rintro e w116 ⟨v1016, rfl, ho0, hb⟩
    refine ⟨_, rfl, ?_⟩
    have n0_ := Aside0.mk (Kd.R_elder' zan9 (Kd.R_base ho0) hb)
    have n1_ := Aside0.mk (Kd.R_elder' zan11 (Kd.R_base ho0) hb)
    have n2_ := Aside0.mk (Kd.R_elder' zan8 (Kd.R_base ho0) hb)
    have n3_ := Aside0.mk (Kd.R_elder' zan7 (Kd.R_base ho0) hb)
    have n4_ := Aside0.mk (Kd.R_lower (Kd.R_new' (Kd.R_new' (Kd.R_new' (Kd.R_new' ho0 (Kd.R_lt zan9)) (Kd.R_lt zan11)) (Kd.R_lt zan8)) (Kd.R_lt zan7)) (below_size zan1))
    have n5_ := Aside0.mk (blk_below (g := gb980) (o := .cells #[.int .i64 a0_0, .int .i64 a0_1, .slice A0_2 l0_2.length c0_2] 24 (0, 0)) zan2 hb)
    have n6_ := Aside0.mk (blk_below (g := gb981) (o := .cells #[.int .i64 a1_0, .int .i64 a1_1] 26 (0, 0)) zan4 hb)
    have n7_ := Aside0.mk (blk_below (g := gb1002) (o := .cells #[.int .i64 t997, .int .i64 t998, .slice Ao42 t999.length co42] 30 (0, 0)) zan6 hb)
    have n8_ := Aside0.mk (below_step zan1 hb)
    clear HO_10
    clear HO_13
    clear HO_14
    clear HO_1003002
    clear BK980
    clear BK981
    clear BK1002
    clear HB
    have HO_10 := n0_
    have HO_13 := n1_
    have HO_14 := n2_
    have HO_1003002 := n3_
    have HO1017 := n4_
    have BK980 := n5_
    have BK981 := n6_
    have BK1002 := n7_
    have HB := n8_
    clear n0_ n1_ n2_ n3_ n4_ n5_ n6_ n7_ n8_
    (try clear hb)
    (try clear hb2)
    (try clear hk)
    (try clear hi)
    (try clear ho0)
    (try clear hna_)
    (try clear hnb_)
    obtain ⟨Ao117, co117, eo117⟩ := Kd.R_slice HO1017.out
    (first | subst eo117 | (injection eo117 with f1_ f2_ f3_; have f4_ := f1_.symm; have f5_ := f3_.symm; clear f1_ f2_ f3_; subst f4_; subst f5_))
    refine hK.out _ _ ⟨(blk_cell BK1002.out 0).trans rfl, (blk_cell BK1002.out 1).trans rfl, (blk_cell BK1002.out 2).trans rfl, (blk_cell BK980.out 0).trans rfl, (blk_cell BK980.out 1).trans rfl, (blk_cell BK980.out 2).trans rfl⟩ (fun hHeld => ?_)
    clear hK K
    refine norm_ (a' := ?_) ?_ ?_
    rotate_left
    ·show Act.put _ (some 64) _ = _
     simp only [Act.put, List.setIfInBounds_toArray, List.set_cons_zero, List.set_cons_succ, i64_w, i32_w]
     rfl
    refine one_ (i := 3) (N := some 65) #[true, true, true, true, false] rfl rfl (by kernel_rfl) (by decide) (fun K hK => ?_)
    refine goes_ Try.func19 (by kernel_rfl) rfl #[.agg #[.int .i64 t997, .int .i64 t998, .slice Ao42 t999.length co42], .agg #[.int .i64 t1013, .int .i64 t1014, .slice Ao117 t1015.length co117]] (by rfl) rfl rfl zan3 ?_
    with_reducible refine (laws_eqBoard.calls kj22 t997 t998 _ _ t999 t1013 t1014 _ _ t1015 true _ ?side1 ?side2 ?side3 ?side4 A56.out).mono ?_
    (case side1 => exact zan28)
    (case side2 => exact (Kd.R_reads' HO_1003002.out).2.1)
    (case side3 => exact zan29)
    (case side4 => exact (Kd.R_reads' HO1017.out).2.1)
    rintro e w118 ⟨rfl, hb⟩
    refine ⟨_, rfl, ?_⟩
    have n0_ := Aside0.mk (Kd.R_below zan9 hb)
    have n1_ := Aside0.mk (Kd.R_below zan11 hb)
    have n2_ := Aside0.mk (Kd.R_below zan8 hb)
    have n3_ := Aside0.mk (Kd.R_below zan7 hb)
    have n4_ := Aside0.mk (Kd.R_below zan18 hb)
    have n5_ := Aside0.mk (blk_below (g := gb980) (o := .cells #[.int .i64 a0_0, .int .i64 a0_1, .slice A0_2 l0_2.length c0_2] 24 (0, 0)) zan2 hb)
    have n6_ := Aside0.mk (blk_below (g := gb981) (o := .cells #[.int .i64 a1_0, .int .i64 a1_1] 26 (0, 0)) zan4 hb)
    have n7_ := Aside0.mk (blk_below (g := gb1002) (o := .cells #[.int .i64 t997, .int .i64 t998, .slice Ao42 t999.length co42] 30 (0, 0)) zan6 hb)
    have n8_ := Aside0.mk (below_step zan1 hb)
    clear HO_10
    clear HO_13
    clear HO_14
    clear HO_1003002
    clear HO1017
    clear BK980
    clear BK981
    clear BK1002
    clear HB
    have HO_10 := n0_
    have HO_13 := n1_
    have HO_14 := n2_
    have HO_1003002 := n3_
    have HO1017 := n4_
    have BK980 := n5_
    have BK981 := n6_
    have BK1002 := n7_
    have HB := n8_
    clear n0_ n1_ n2_ n3_ n4_ n5_ n6_ n7_ n8_
    (try clear hb)
    (try clear hb2)
    (try clear hk)
    (try clear hi)
    (try clear hna_)
    (try clear hnb_)
    refine hK.out _ _ ⟨(blk_cell BK1002.out 0).trans rfl, (blk_cell BK1002.out 1).trans rfl, (blk_cell BK1002.out 2).trans rfl, (blk_cell BK980.out 0).trans rfl, (blk_cell BK980.out 1).trans rfl, (blk_cell BK980.out 2).trans rfl⟩ (fun hHeld => ?_)
    clear hK K
    refine norm_ (a' := ?_) ?_ ?_
    rotate_left
    ·show Act.put _ (some 65) _ = _
     simp only [Act.put, List.setIfInBounds_toArray, List.set_cons_zero, List.set_cons_succ, i64_w, i32_w]
     rfl
    refine pure_ (i := 4) (N := some 66) (v := ?_) (a' := ?_) #[true, true, true, true, true] rfl rfl (by kernel_rfl) (fun _ _ _ h => h) (Or.inl ⟨by rfl, ?_⟩) ?_ ?_
    rotate_left
    ·intro w'
     go_simp
     with_reducible rfl
    rotate_left
    ·simp only [Act.put, List.setIfInBounds_toArray, List.set_cons_zero, List.set_cons_succ, i64_w, i32_w]
     rfl
    refine done_ (by kernel_rfl) ?_
    try go_wp2_with (first | ((with_reducible refine gate_callee (f := 16) rfl ?_); refine goesL_ (some 69) rfl rfl Try.func16 (by kernel_rfl) rfl #[.slice A3 l3.length c3] rfl zan3 ?_; (with_reducible refine (laws_toIntS.calls kj22 _ _ l3 t1019 _ ?side1 ?side2 A58.out).mono ?_); (case side1 => exact zan21); (case side2 => exact HC3.out); rintro e w119 ⟨v1020, rfl, ho0, hb⟩; refine ⟨_, rfl, ?_⟩; have n0_ := Aside0.mk (Kd.R_elder' zan9 (Kd.R_base ho0) hb); have n1_ := Aside0.mk (Kd.R_elder' zan11 (Kd.R_base ho0) hb); have n2_ := Aside0.mk (Kd.R_elder' zan8 (Kd.R_base ho0) hb); have n3_ := Aside0.mk (Kd.R_elder' zan7 (Kd.R_base ho0) hb); have n4_ := Aside0.mk (Kd.R_elder' zan18 (Kd.R_base ho0) hb); have n5_ := Aside0.mk (Kd.R_lower (Kd.R_new' (Kd.R_new' (Kd.R_new' (Kd.R_new' (Kd.R_new' ho0 (Kd.R_lt zan9)) (Kd.R_lt zan11)) (Kd.R_lt zan8)) (Kd.R_lt zan7)) (Kd.R_lt zan18)) (below_size zan1)); have n6_ := Aside0.mk (blk_below (g := gb980) (o := .cells #[.int .i64 a0_0, .int .i64 a0_1, .slice A0_2 l0_2.length c0_2] 24 (0, 0)) zan2 hb); have n7_ := Aside0.mk (blk_below (g := gb981) (o := .cells #[.int .i64 a1_0, .int .i64 a1_1] 26 (0, 0)) zan4 hb); have n8_ := Aside0.mk (blk_below (g := gb1002) (o := .cells #[.int .i64 t997, .int .i64 t998, .slice Ao42 t999.length co42] 30 (0, 0)) zan6 hb); have n9_ := Aside0.mk (below_step zan1 hb); clear HO_10; clear HO_13; clear HO_14; clear HO_1003002; clear HO1017; clear BK980; clear BK981; clear BK1002; clear HB; have HO_10 := n0_; have HO_13 := n1_; have HO_14 := n2_; have HO_1003002 := n3_; have HO1017 := n4_; have HO1021 := n5_; have BK980 := n6_; have BK981 := n7_; have BK1002 := n8_; have HB := n9_; clear n0_ n1_ n2_ n3_ n4_ n5_ n6_ n7_ n8_ n9_; (try clear hb); (try clear hb2); (try clear hk); (try clear hi); (try clear ho0); (try clear hna_); (try clear hnb_); obtain ⟨Ao120, co120, eo120⟩ := Kd.R_slice HO1021.out; subst eo120) | ((with_reducible refine gate_callee (f := 18) rfl ?_); refine goesL_ (some 70) rfl rfl Try.func18 (by kernel_rfl) rfl #[.slice Ao46 t1003.length co46, .slice Ao120 t1019.length co120] rfl zan3 ?_; (with_reducible refine (laws_eqIntS.calls kj22 _ _ t1003 _ _ t1019 false _ ?side1 ?side2 ?side3 ?side4 A59.out).mono ?_); (case side1 => exact zan46); (case side2 => exact (Kd.R_reads' HO_13.out).2.1); (case side3 => exact zan44); (case side4 => exact (Kd.R_reads' HO1021.out).2.1); rintro e w' ⟨rfl, ⟨nd, rfl⟩⟩; refine ⟨_, rfl, ?_⟩))
    go_ret
    exact ⟨zan16, zan1⟩
   subst c60
   have H1 : ((laws_markBoard.f kj22 t997 t998 t999 1).bind fun bt1023 => ((laws_markIntS.f kj22 t1003 bt1023.1).bind fun bt1025 => (if bt1025.1 < 0 then (laws_FnExactWalkOfSteps.j1 kj22 a2 l3 t993 t996 t1008 true a0_0 a0_1 l0_2 a1_0 a1_1) else ((laws_eqIntS.f kj22 t1008 t993).bind fun t1027 => (if t1027 = true then (laws_FnExactWalkOfSteps.j1 kj22 a2 l3 t993 t996 t1008 (t1011 != t996) a0_0 a0_1 l0_2 a1_0 a1_1) else (laws_FnExactWalkOfSteps.j1 kj22 a2 l3 t993 t996 t1008 true a0_0 a0_1 l0_2 a1_0 a1_1)))))) = some r := by rw [if_pos rfl] at H; exact H
   clear H
   have H := H1
   clear H1
   replace H := Option.bind_eq_some_iff.mp H
   obtain ⟨⟨t1023, t1024⟩, A610, H⟩ := H
   replace H : ((laws_markIntS.f kj22 t1003 t1023).bind fun bt1025 => (if bt1025.1 < 0 then (laws_FnExactWalkOfSteps.j1 kj22 a2 l3 t993 t996 t1008 true a0_0 a0_1 l0_2 a1_0 a1_1) else ((laws_eqIntS.f kj22 t1008 t993).bind fun t1027 => (if t1027 = true then (laws_FnExactWalkOfSteps.j1 kj22 a2 l3 t993 t996 t1008 (t1011 != t996) a0_0 a0_1 l0_2 a1_0 a1_1) else (laws_FnExactWalkOfSteps.j1 kj22 a2 l3 t993 t996 t1008 true a0_0 a0_1 l0_2 a1_0 a1_1))))) = some r := H
   have A61 := Aside0.mk A610
   clear A610
   replace H := Option.bind_eq_some_iff.mp H
   obtain ⟨⟨t1025, t1026⟩, A620, H⟩ := H
   replace H : (if t1025 < 0 then (laws_FnExactWalkOfSteps.j1 kj22 a2 l3 t993 t996 t1008 true a0_0 a0_1 l0_2 a1_0 a1_1) else ((laws_eqIntS.f kj22 t1008 t993).bind fun t1027 => (if t1027 = true then (laws_FnExactWalkOfSteps.j1 kj22 a2 l3 t993 t996 t1008 (t1011 != t996) a0_0 a0_1 l0_2 a1_0 a1_1) else (laws_FnExactWalkOfSteps.j1 kj22 a2 l3 t993 t996 t1008 true a0_0 a0_1 l0_2 a1_0 a1_1)))) = some r := H
   have A62 := Aside0.mk A620
   clear A620
   have HC63 := Aside0.mk H
   clear H
   try go_wp2
   have n0_ := Aside0.mk (Kd.R_drew HO_10.out)
   have n1_ := Aside0.mk (Kd.R_drew HO_13.out)
   have n2_ := Aside0.mk (Kd.R_drew HO_14.out)
   have n3_ := Aside0.mk (Kd.R_drew HO_1003002.out)
   have n4_ := Aside0.mk (blk_drew BK980.out)
   have n5_ := Aside0.mk (blk_drew BK981.out)
   have n6_ := Aside0.mk (blk_drew BK1002.out)
   have n7_ := Aside0.mk (below_drew1 HB.out)
   clear HO_10
   clear HO_13
   clear HO_14
   clear HO_1003002
   clear BK980
   clear BK981
   clear BK1002
   clear HB
   have HO_10 := n0_
   have HO_13 := n1_
   have HO_14 := n2_
   have HO_1003002 := n3_
   have BK980 := n4_
   have BK981 := n5_
   have BK1002 := n6_
   have HB := n7_
   clear n0_ n1_ n2_ n3_ n4_ n5_ n6_ n7_
   refine start_ (n := 5) (S := fun w' => w'.cell? ⟨gb1002, 0, none⟩ = some (.int .i64 t997) ∧ w'.cell? ⟨gb1002, 1, none⟩ = some (.int .i64 t998) ∧ w'.cell? ⟨gb1002, 2, none⟩ = some (.slice Ao42 t999.length co42) ∧ w'.cell? ⟨gb980, 0, none⟩ = some (.int .i64 a0_0) ∧ w'.cell? ⟨gb980, 1, none⟩ = some (.int .i64 a0_1) ∧ w'.cell? ⟨gb980, 2, none⟩ = some (.slice A0_2 l0_2.length c0_2)) (ds := []) #[false, false, false, false, false] (by kernel_rfl) rfl rfl ⟨(blk_cell BK1002.out 0).trans rfl, (blk_cell BK1002.out 1).trans rfl, (blk_cell BK1002.out 2).trans rfl, (blk_cell BK980.out 0).trans rfl, (blk_cell BK980.out 1).trans rfl, (blk_cell BK980.out 2).trans rfl⟩ (fun hHeld => ?_)
   generalize wc.drew = w64 at HO_10 HO_13 HO_14 HO_1003002 BK980 BK981 BK1002 HB hHeld ⊢
   refine take_ (i := 0) (N := some 62) (v := ?_) (a' := ?_) #[true, false, false, false, false] rfl rfl (by kernel_rfl) (fun _ _ _ h => h) (Or.inl ⟨by rfl, ?_⟩) hHeld ?_ ?_
   rotate_left
   ·rintro w' ⟨s0, s1, s2, s3, s4, s5⟩
    go_simp
    with_reducible rfl
   rotate_left
   ·simp only [Act.put, List.setIfInBounds_toArray, List.set_cons_zero, List.set_cons_succ, i64_w, i32_w]
    rfl
   refine take_ (i := 1) (N := some 63) (v := ?_) (a' := ?_) #[true, true, false, false, false] rfl rfl (by kernel_rfl) (fun _ _ _ h => h) (Or.inl ⟨by rfl, ?_⟩) hHeld ?_ ?_
   rotate_left
   ·rintro w' ⟨s0, s1, s2, s3, s4, s5⟩
    go_simp
    with_reducible rfl
   rotate_left
   ·simp only [Act.put, List.setIfInBounds_toArray, List.set_cons_zero, List.set_cons_succ, i64_w, i32_w]
    rfl
   refine one_ (i := 2) (N := some 64) #[true, true, true, false, false] rfl rfl (by kernel_rfl) (by decide) (fun K hK => ?_)
   refine goes_ Try.func14 (by kernel_rfl) rfl #[.agg #[.int .i64 a0_0, .int .i64 a0_1, .slice A0_2 l0_2.length c0_2]] (by rfl) rfl rfl zan3 ?_
   with_reducible refine (laws_toBoard.calls kj22 a0_0 a0_1 _ _ l0_2 t1013 t1014 t1015 _ ?side1 ?side2 A55.out).mono ?_
   (case side1 => exact zan12)
   (case side2 => exact HC0_2.out)
   rintro e w65 ⟨v1016, rfl, ho0, hb⟩
   refine ⟨_, rfl, ?_⟩
   have n0_ := Aside0.mk (Kd.R_elder' zan9 (Kd.R_base ho0) hb)
   have n1_ := Aside0.mk (Kd.R_elder' zan11 (Kd.R_base ho0) hb)
   have n2_ := Aside0.mk (Kd.R_elder' zan8 (Kd.R_base ho0) hb)
   have n3_ := Aside0.mk (Kd.R_elder' zan7 (Kd.R_base ho0) hb)
   have n4_ := Aside0.mk (Kd.R_lower (Kd.R_new' (Kd.R_new' (Kd.R_new' (Kd.R_new' ho0 (Kd.R_lt zan9)) (Kd.R_lt zan11)) (Kd.R_lt zan8)) (Kd.R_lt zan7)) (below_size zan1))
   have n5_ := Aside0.mk (blk_below (g := gb980) (o := .cells #[.int .i64 a0_0, .int .i64 a0_1, .slice A0_2 l0_2.length c0_2] 24 (0, 0)) zan2 hb)
   have n6_ := Aside0.mk (blk_below (g := gb981) (o := .cells #[.int .i64 a1_0, .int .i64 a1_1] 26 (0, 0)) zan4 hb)
   have n7_ := Aside0.mk (blk_below (g := gb1002) (o := .cells #[.int .i64 t997, .int .i64 t998, .slice Ao42 t999.length co42] 30 (0, 0)) zan6 hb)
   have n8_ := Aside0.mk (below_step zan1 hb)
   clear HO_10
   clear HO_13
   clear HO_14
   clear HO_1003002
   clear BK980
   clear BK981
   clear BK1002
   clear HB
   have HO_10 := n0_
   have HO_13 := n1_
   have HO_14 := n2_
   have HO_1003002 := n3_
   have HO1017 := n4_
   have BK980 := n5_
   have BK981 := n6_
   have BK1002 := n7_
   have HB := n8_
   clear n0_ n1_ n2_ n3_ n4_ n5_ n6_ n7_ n8_
   (try clear hb)
   (try clear hb2)
   (try clear hk)
   (try clear hi)
   (try clear ho0)
   (try clear hna_)
   (try clear hnb_)
   obtain ⟨Ao66, co66, eo66⟩ := Kd.R_slice HO1017.out
   (first | subst eo66 | (injection eo66 with f1_ f2_ f3_; have f4_ := f1_.symm; have f5_ := f3_.symm; clear f1_ f2_ f3_; subst f4_; subst f5_))
   refine hK.out _ _ ⟨(blk_cell BK1002.out 0).trans rfl, (blk_cell BK1002.out 1).trans rfl, (blk_cell BK1002.out 2).trans rfl, (blk_cell BK980.out 0).trans rfl, (blk_cell BK980.out 1).trans rfl, (blk_cell BK980.out 2).trans rfl⟩ (fun hHeld => ?_)
   clear hK K
   refine norm_ (a' := ?_) ?_ ?_
   rotate_left
   ·show Act.put _ (some 64) _ = _
    simp only [Act.put, List.setIfInBounds_toArray, List.set_cons_zero, List.set_cons_succ, i64_w, i32_w]
    rfl
   refine one_ (i := 3) (N := some 65) #[true, true, true, true, false] rfl rfl (by kernel_rfl) (by decide) (fun K hK => ?_)
   refine goes_ Try.func19 (by kernel_rfl) rfl #[.agg #[.int .i64 t997, .int .i64 t998, .slice Ao42 t999.length co42], .agg #[.int .i64 t1013, .int .i64 t1014, .slice Ao66 t1015.length co66]] (by rfl) rfl rfl zan3 ?_
   with_reducible refine (laws_eqBoard.calls kj22 t997 t998 _ _ t999 t1013 t1014 _ _ t1015 true _ ?side1 ?side2 ?side3 ?side4 A56.out).mono ?_
   (case side1 => exact zan28)
   (case side2 => exact (Kd.R_reads' HO_1003002.out).2.1)
   (case side3 => exact zan29)
   (case side4 => exact (Kd.R_reads' HO1017.out).2.1)
   rintro e w67 ⟨rfl, hb⟩
   refine ⟨_, rfl, ?_⟩
   have n0_ := Aside0.mk (Kd.R_below zan9 hb)
   have n1_ := Aside0.mk (Kd.R_below zan11 hb)
   have n2_ := Aside0.mk (Kd.R_below zan8 hb)
   have n3_ := Aside0.mk (Kd.R_below zan7 hb)
   have n4_ := Aside0.mk (Kd.R_below zan18 hb)
   have n5_ := Aside0.mk (blk_below (g := gb980) (o := .cells #[.int .i64 a0_0, .int .i64 a0_1, .slice A0_2 l0_2.length c0_2] 24 (0, 0)) zan2 hb)
   have n6_ := Aside0.mk (blk_below (g := gb981) (o := .cells #[.int .i64 a1_0, .int .i64 a1_1] 26 (0, 0)) zan4 hb)
   have n7_ := Aside0.mk (blk_below (g := gb1002) (o := .cells #[.int .i64 t997, .int .i64 t998, .slice Ao42 t999.length co42] 30 (0, 0)) zan6 hb)
   have n8_ := Aside0.mk (below_step zan1 hb)
   clear HO_10
   clear HO_13
   clear HO_14
   clear HO_1003002
   clear HO1017
   clear BK980
   clear BK981
   clear BK1002
   clear HB
   have HO_10 := n0_
   have HO_13 := n1_
   have HO_14 := n2_
   have HO_1003002 := n3_
   have HO1017 := n4_
   have BK980 := n5_
   have BK981 := n6_
   have BK1002 := n7_
   have HB := n8_
   clear n0_ n1_ n2_ n3_ n4_ n5_ n6_ n7_ n8_
   (try clear hb)
   (try clear hb2)
   (try clear hk)
   (try clear hi)
   (try clear hna_)
   (try clear hnb_)
   refine hK.out _ _ ⟨(blk_cell BK1002.out 0).trans rfl, (blk_cell BK1002.out 1).trans rfl, (blk_cell BK1002.out 2).trans rfl, (blk_cell BK980.out 0).trans rfl, (blk_cell BK980.out 1).trans rfl, (blk_cell BK980.out 2).trans rfl⟩ (fun hHeld => ?_)
   clear hK K
   refine norm_ (a' := ?_) ?_ ?_
   rotate_left
   ·show Act.put _ (some 65) _ = _
    simp only [Act.put, List.setIfInBounds_toArray, List.set_cons_zero, List.set_cons_succ, i64_w, i32_w]
    rfl
   refine pure_ (i := 4) (N := some 66) (v := ?_) (a' := ?_) #[true, true, true, true, true] rfl rfl (by kernel_rfl) (fun _ _ _ h => h) (Or.inl ⟨by rfl, ?_⟩) ?_ ?_
   rotate_left
   ·intro w'
    go_simp
    with_reducible rfl
   rotate_left
   ·simp only [Act.put, List.setIfInBounds_toArray, List.set_cons_zero, List.set_cons_succ, i64_w, i32_w]
    rfl
   refine done_ (by kernel_rfl) ?_
   go_upto_region 20 with (first | ((with_reducible refine gate_callee (f := 16) rfl ?_); refine goesL_ (some 69) rfl rfl Try.func16 (by kernel_rfl) rfl #[.slice A3 l3.length c3] rfl zan3 ?_; (with_reducible refine (laws_toIntS.calls kj22 _ _ l3 t1019 _ ?side1 ?side2 A58.out).mono ?_); (case side1 => exact zan21); (case side2 => exact HC3.out); rintro e w68 ⟨v1020, rfl, ho0, hb⟩; refine ⟨_, rfl, ?_⟩; have n0_ := Aside0.mk (Kd.R_elder' zan9 (Kd.R_base ho0) hb); have n1_ := Aside0.mk (Kd.R_elder' zan11 (Kd.R_base ho0) hb); have n2_ := Aside0.mk (Kd.R_elder' zan8 (Kd.R_base ho0) hb); have n3_ := Aside0.mk (Kd.R_elder' zan7 (Kd.R_base ho0) hb); have n4_ := Aside0.mk (Kd.R_elder' zan18 (Kd.R_base ho0) hb); have n5_ := Aside0.mk (Kd.R_lower (Kd.R_new' (Kd.R_new' (Kd.R_new' (Kd.R_new' (Kd.R_new' ho0 (Kd.R_lt zan9)) (Kd.R_lt zan11)) (Kd.R_lt zan8)) (Kd.R_lt zan7)) (Kd.R_lt zan18)) (below_size zan1)); have n6_ := Aside0.mk (blk_below (g := gb980) (o := .cells #[.int .i64 a0_0, .int .i64 a0_1, .slice A0_2 l0_2.length c0_2] 24 (0, 0)) zan2 hb); have n7_ := Aside0.mk (blk_below (g := gb981) (o := .cells #[.int .i64 a1_0, .int .i64 a1_1] 26 (0, 0)) zan4 hb); have n8_ := Aside0.mk (blk_below (g := gb1002) (o := .cells #[.int .i64 t997, .int .i64 t998, .slice Ao42 t999.length co42] 30 (0, 0)) zan6 hb); have n9_ := Aside0.mk (below_step zan1 hb); clear HO_10; clear HO_13; clear HO_14; clear HO_1003002; clear HO1017; clear BK980; clear BK981; clear BK1002; clear HB; have HO_10 := n0_; have HO_13 := n1_; have HO_14 := n2_; have HO_1003002 := n3_; have HO1017 := n4_; have HO1021 := n5_; have BK980 := n6_; have BK981 := n7_; have BK1002 := n8_; have HB := n9_; clear n0_ n1_ n2_ n3_ n4_ n5_ n6_ n7_ n8_ n9_; (try clear hb); (try clear hb2); (try clear hk); (try clear hi); (try clear ho0); (try clear hna_); (try clear hnb_); obtain ⟨Ao69, co69, eo69⟩ := Kd.R_slice HO1021.out; subst eo69) | ((with_reducible refine gate_callee (f := 18) rfl ?_); refine goesL_ (some 70) rfl rfl Try.func18 (by kernel_rfl) rfl #[.slice Ao46 t1003.length co46, .slice Ao69 t1019.length co69] rfl zan3 ?_; (with_reducible refine (laws_eqIntS.calls kj22 _ _ t1003 _ _ t1019 true _ ?side1 ?side2 ?side3 ?side4 A59.out).mono ?_); (case side1 => exact zan46); (case side2 => exact (Kd.R_reads' HO_13.out).2.1); (case side3 => exact zan44); (case side4 => exact (Kd.R_reads' HO1021.out).2.1); rintro e w' ⟨rfl, ⟨nd, rfl⟩⟩; refine ⟨_, rfl, ?_⟩; have hnb70 := NB1002_980.out; have hnc70 := NB980_1002.out; have hnb71 := NB1002_981.out; have hnc71 := NB981_1002.out; have hcz72_0 : w68.cell? ⟨gb1002, 0, none⟩ = some (.int .i64 t997) := (blk_cell BK1002.out 0).trans rfl; have hcz72_1 : w68.cell? ⟨gb1002, 1, none⟩ = some (.int .i64 t998) := (blk_cell BK1002.out 1).trans rfl; have hcz72_2 : w68.cell? ⟨gb1002, 2, none⟩ = some (.slice Ao42 t999.length co42) := (blk_cell BK1002.out 2).trans rfl; have hfz72_0 := blk_frozen BK1002.out 0; have hfz72_1 := blk_frozen BK1002.out 1; have hfz72_2 := blk_frozen BK1002.out 2) | ((with_reducible refine gate_callee (f := 20) rfl ?_); refine goesL_ (some 74) rfl rfl Try.func20 (by kernel_rfl) rfl #[.agg #[.int .i64 t997, .int .i64 t998, .slice Ao42 t999.length co42], .int .i64 1] rfl zan3 ?_; (with_reducible refine (laws_markBoard.calls kj22 t997 t998 (fun k_ => some k_ = (.slice Ao42 t999.length co42 : Value).ownBlock) (.slice Ao42 t999.length co42) t999 1 t1023 t1024 w _ ?side1 ?side2 A61.out).mono ?_); (case side1 => exact zan1); (case side2 => exact Kd.R_tight rfl HO_1003002.out); rintro e w73 ⟨rfl, hy0, hb, hkp⟩; refine ⟨_, rfl, ?_⟩; have n0_ := Aside0.mk (Kd.R_mono (ok' := fun k_ => some k_ ≠ (.slice Ao46 t1003.length co46 : Value).ownBlock ∧ some k_ ≠ (v1009 : Value).ownBlock ∧ some k_ ≠ (.slice Ao42 t999.length co42 : Value).ownBlock ∧ some k_ ≠ (.slice Ao66 t1015.length co66 : Value).ownBlock ∧ some k_ ≠ (.slice Ao69 t1019.length co69 : Value).ownBlock) (Kd.R_keptB (HO_10.out) hkp (fun k_ hk_ hs_ => (hk_.1.1.2.2) hs_)) (fun k_ hk_ => ⟨hk_.1.1.1.1, hk_.1.1.1.2.1, hk_.1.1.1.2.2, hk_.1.1.2, hk_.1.2⟩)); have n1_ := Aside0.mk (Kd.R_mono (ok' := fun k_ => some k_ ≠ (v994 : Value).ownBlock ∧ some k_ ≠ (v1009 : Value).ownBlock ∧ some k_ ≠ (.slice Ao42 t999.length co42 : Value).ownBlock ∧ some k_ ≠ (.slice Ao66 t1015.length co66 : Value).ownBlock ∧ some k_ ≠ (.slice Ao69 t1019.length co69 : Value).ownBlock) (Kd.R_keptB (HO_13.out) hkp (fun k_ hk_ hs_ => (hk_.1.1.2.2) hs_)) (fun k_ hk_ => ⟨hk_.1.1.1.1, hk_.1.1.1.2.1, hk_.1.1.1.2.2, hk_.1.1.2, hk_.1.2⟩)); have n2_ := Aside0.mk (Kd.R_mono (ok' := fun k_ => some k_ ≠ (v994 : Value).ownBlock ∧ some k_ ≠ (.slice Ao46 t1003.length co46 : Value).ownBlock ∧ some k_ ≠ (.slice Ao42 t999.length co42 : Value).ownBlock ∧ some k_ ≠ (.slice Ao66 t1015.length co66 : Value).ownBlock ∧ some k_ ≠ (.slice Ao69 t1019.length co69 : Value).ownBlock) (Kd.R_keptB (HO_14.out) hkp (fun k_ hk_ hs_ => (hk_.1.1.2.2) hs_)) (fun k_ hk_ => ⟨hk_.1.1.1.1, hk_.1.1.1.2.1, hk_.1.1.1.2.2, hk_.1.1.2, hk_.1.2⟩)); have n3_ := Aside0.mk (Kd.R_reok rfl hy0 (fun k_ e_ => HO_1003002.out.1 k_ e_)); have n4_ := Aside0.mk (blk_kept zan2 hkp (fun hs_ => (fun e_ => (Kd.R_ne HO_1003002.out BK980.out (by decide)) e_) hs_)); have n5_ := Aside0.mk (blk_kept zan4 hkp (fun hs_ => (fun e_ => (Kd.R_ne HO_1003002.out BK981.out (by decide)) e_) hs_)); have n6_ := Aside0.mk (blk_kept zan6 hkp (fun hs_ => (fun e_ => (Kd.R_ne HO_1003002.out BK1002.out (by decide)) e_) hs_)); have n7_ := Aside0.mk (Kd.R_mono (ok' := fun k_ => some k_ ≠ (v994 : Value).ownBlock ∧ some k_ ≠ (.slice Ao46 t1003.length co46 : Value).ownBlock ∧ some k_ ≠ (v1009 : Value).ownBlock ∧ some k_ ≠ (.slice Ao42 t999.length co42 : Value).ownBlock ∧ some k_ ≠ (.slice Ao69 t1019.length co69 : Value).ownBlock) (Kd.R_keptB (HO1017.out) hkp (fun k_ hk_ hs_ => (hk_.1.2) hs_)) (fun k_ hk_ => ⟨hk_.1.1.1.1.1.2, hk_.1.1.1.1.2, hk_.1.1.1.2, hk_.1.1.2, hk_.1.2⟩)); have n8_ := Aside0.mk (Kd.R_mono (ok' := fun k_ => some k_ ≠ (v994 : Value).ownBlock ∧ some k_ ≠ (.slice Ao46 t1003.length co46 : Value).ownBlock ∧ some k_ ≠ (v1009 : Value).ownBlock ∧ some k_ ≠ (.slice Ao42 t999.length co42 : Value).ownBlock ∧ some k_ ≠ (.slice Ao66 t1015.length co66 : Value).ownBlock) (Kd.R_keptB (HO1021.out) hkp (fun k_ hk_ hs_ => (hk_.1.2) hs_)) (fun k_ hk_ => ⟨hk_.1.1.1.1.1.2, hk_.1.1.1.1.2, hk_.1.1.1.2, hk_.1.1.2, hk_.1.2⟩)); have n9_ := Aside0.mk (hb); clear HO_10; clear HO_13; clear HO_14; clear HO_1003002; clear BK980; clear BK981; clear BK1002; clear HO1017; clear HO1021; clear HB; have HO_10 := n0_; have HO_13 := n1_; have HO_14 := n2_; have HO_1003002 := n3_; have BK980 := n4_; have BK981 := n5_; have BK1002 := n6_; have HO1017 := n7_; have HO1021 := n8_; have HB := n9_; clear n0_ n1_ n2_ n3_ n4_ n5_ n6_ n7_ n8_ n9_; (try clear hb); (try clear hkp); (try clear hy0)) | ((with_reducible refine gate_callee (f := 21) rfl ?_); refine goesL_ (some 77) rfl rfl Try.func21 (by kernel_rfl) rfl #[.slice Ao46 t1003.length co46, .int .i64 t1023] rfl zan3 ?_; (with_reducible refine (laws_markIntS.calls kj22 (fun k_ => some k_ = (.slice Ao46 t1003.length co46 : Value).ownBlock) (.slice Ao46 t1003.length co46) t1003 t1023 t1025 t1026 w _ ?side1 ?side2 A62.out).mono ?_); (case side1 => exact zan1); (case side2 => exact Kd.R_tight rfl HO_13.out); rintro e w74 ⟨rfl, hy0, hb, hkp⟩; refine ⟨_, rfl, ?_⟩; have n0_ := Aside0.mk (Kd.R_mono (ok' := fun k_ => some k_ ≠ (.slice Ao46 t1003.length co46 : Value).ownBlock ∧ some k_ ≠ (v1009 : Value).ownBlock ∧ some k_ ≠ (.slice Ao42 t999.length co42 : Value).ownBlock ∧ some k_ ≠ (.slice Ao66 t1015.length co66 : Value).ownBlock ∧ some k_ ≠ (.slice Ao69 t1019.length co69 : Value).ownBlock) (Kd.R_keptB (HO_10.out) hkp (fun k_ hk_ hs_ => (hk_.1) hs_)) (fun k_ hk_ => ⟨hk_.1.1, hk_.1.2.1, hk_.1.2.2.1, hk_.1.2.2.2.1, hk_.1.2.2.2.2⟩)); have n1_ := Aside0.mk (Kd.R_reok rfl hy0 (fun k_ e_ => HO_13.out.1 k_ e_)); have n2_ := Aside0.mk (Kd.R_mono (ok' := fun k_ => some k_ ≠ (v994 : Value).ownBlock ∧ some k_ ≠ (.slice Ao46 t1003.length co46 : Value).ownBlock ∧ some k_ ≠ (.slice Ao42 t999.length co42 : Value).ownBlock ∧ some k_ ≠ (.slice Ao66 t1015.length co66 : Value).ownBlock ∧ some k_ ≠ (.slice Ao69 t1019.length co69 : Value).ownBlock) (Kd.R_keptB (HO_14.out) hkp (fun k_ hk_ hs_ => (hk_.2.1) hs_)) (fun k_ hk_ => ⟨hk_.1.1, hk_.1.2.1, hk_.1.2.2.1, hk_.1.2.2.2.1, hk_.1.2.2.2.2⟩)); have n3_ := Aside0.mk (Kd.R_mono (ok' := fun k_ => some k_ ≠ (v994 : Value).ownBlock ∧ some k_ ≠ (.slice Ao46 t1003.length co46 : Value).ownBlock ∧ some k_ ≠ (v1009 : Value).ownBlock ∧ some k_ ≠ (.slice Ao66 t1015.length co66 : Value).ownBlock ∧ some k_ ≠ (.slice Ao69 t1019.length co69 : Value).ownBlock) (Kd.R_keptB (HO_1003002.out) hkp (fun k_ hk_ hs_ => (hk_.1.1.2.1) hs_)) (fun k_ hk_ => ⟨hk_.1.1.1.1, hk_.1.1.1.2.1, hk_.1.1.1.2.2, hk_.1.1.2, hk_.1.2⟩)); have n4_ := Aside0.mk (blk_kept zan2 hkp (fun hs_ => (fun e_ => (Kd.R_ne HO_13.out BK980.out (by decide)) e_) hs_)); have n5_ := Aside0.mk (blk_kept zan4 hkp (fun hs_ => (fun e_ => (Kd.R_ne HO_13.out BK981.out (by decide)) e_) hs_)); have n6_ := Aside0.mk (blk_kept zan6 hkp (fun hs_ => (fun e_ => (Kd.R_ne HO_13.out BK1002.out (by decide)) e_) hs_)); have n7_ := Aside0.mk (Kd.R_mono (ok' := fun k_ => some k_ ≠ (v994 : Value).ownBlock ∧ some k_ ≠ (.slice Ao46 t1003.length co46 : Value).ownBlock ∧ some k_ ≠ (v1009 : Value).ownBlock ∧ some k_ ≠ (.slice Ao42 t999.length co42 : Value).ownBlock ∧ some k_ ≠ (.slice Ao69 t1019.length co69 : Value).ownBlock) (Kd.R_keptB (HO1017.out) hkp (fun k_ hk_ hs_ => (hk_.2.1) hs_)) (fun k_ hk_ => ⟨hk_.1.1, hk_.1.2.1, hk_.1.2.2.1, hk_.1.2.2.2.1, hk_.1.2.2.2.2⟩)); have n8_ := Aside0.mk (Kd.R_mono (ok' := fun k_ => some k_ ≠ (v994 : Value).ownBlock ∧ some k_ ≠ (.slice Ao46 t1003.length co46 : Value).ownBlock ∧ some k_ ≠ (v1009 : Value).ownBlock ∧ some k_ ≠ (.slice Ao42 t999.length co42 : Value).ownBlock ∧ some k_ ≠ (.slice Ao66 t1015.length co66 : Value).ownBlock) (Kd.R_keptB (HO1021.out) hkp (fun k_ hk_ hs_ => (hk_.2.1) hs_)) (fun k_ hk_ => ⟨hk_.1.1, hk_.1.2.1, hk_.1.2.2.1, hk_.1.2.2.2.1, hk_.1.2.2.2.2⟩)); have n9_ := Aside0.mk (hb); clear HO_10; clear HO_13; clear HO_14; clear HO_1003002; clear BK980; clear BK981; clear BK1002; clear HO1017; clear HO1021; clear HB; have HO_10 := n0_; have HO_13 := n1_; have HO_14 := n2_; have HO_1003002 := n3_; have BK980 := n4_; have BK981 := n5_; have BK1002 := n6_; have HO1017 := n7_; have HO1021 := n8_; have HB := n9_; clear n0_ n1_ n2_ n3_ n4_ n5_ n6_ n7_ n8_ n9_; (try clear hb); (try clear hkp); (try clear hy0)))
   (try simp only [Act.put, List.setIfInBounds_toArray, List.set_cons_zero, List.set_cons_succ])
   go_cut [90] (fun v90 wc => ∃ (kq : Nat) (x90_62 : Bool), v90 = .bool x90_62 ∧ Aside0 (laws_FnExactWalkOfSteps.j1 kq a2 l3 t993 t996 t1008 x90_62 a0_0 a0_1 l0_2 a1_0 a1_1 = some r) ∧ Aside0 (kq ≤ kj22) ∧ Aside0 (Kd.R (Kd.int .i64) 3 wc w.heap.size (fun k_ => some k_ ≠ (v1009 : Value).ownBlock ∧ some k_ ≠ ((.slice Ao42 t999.length co42) : Value).ownBlock) v994 t993) ∧ Aside0 (Kd.R (Kd.int .i64) 3 wc w.heap.size (fun k_ => some k_ ≠ (v994 : Value).ownBlock ∧ some k_ ≠ ((.slice Ao42 t999.length co42) : Value).ownBlock) v1009 t1008) ∧ Aside0 (Kd.R (Kd.int .i64) 3 wc w.heap.size (fun k_ => some k_ ≠ (v994 : Value).ownBlock ∧ some k_ ≠ (v1009 : Value).ownBlock) (.slice Ao42 t999.length co42) t1024) ∧ Aside0 (wc.heap[gb980]? = some (.cells #[.int .i64 a0_0, .int .i64 a0_1, (.slice A0_2 l0_2.length c0_2)] 24 (0, 0))) ∧ Aside0 (wc.heap[gb981]? = some (.cells #[.int .i64 a1_0, .int .i64 a1_1] 26 (0, 0))) ∧ Aside0 (wc.heap[gb1002]? = some (.cells #[.int .i64 t997, .int .i64 t998, (.slice Ao42 t999.length co42)] 30 (0, 0))) ∧ Aside0 (Below w.heap.size w wc))
   case first =>
    have H := HC63.out
    clear HC63
    by_cases c75 : t1025 < 0
    ·rw [if_pos c75] at H
     have c75b0 : decide (t1025 < 0) = true := decide_eq_true c75
     clear c75
     (first | rw [c75b0] | (simp only [i64_w, i32_w]; rw [c75b0]) | skip)
     have H' := Aside0.mk H
     clear H
     go_wp2
     go_meet
     case rel => exact ⟨_, (true), zan34, H', ⟨by have := HJ22.out; first | omega | exact Nat.le_refl _⟩, ⟨zan32⟩, ⟨zan33⟩, ⟨zan31⟩, ⟨zan2⟩, ⟨zan4⟩, ⟨zan6⟩, ⟨zan1⟩⟩
    rw [if_neg c75] at H
    have c75b0 : decide (t1025 < 0) = false := decide_eq_false c75
    clear c75
    (first | rw [c75b0] | (simp only [i64_w, i32_w]; rw [c75b0]) | skip)
    replace H := Option.bind_eq_some_iff.mp H
    obtain ⟨t1027, A760, H⟩ := H
    replace H : (if t1027 = true then (laws_FnExactWalkOfSteps.j1 kj22 a2 l3 t993 t996 t1008 (t1011 != t996) a0_0 a0_1 l0_2 a1_0 a1_1) else (laws_FnExactWalkOfSteps.j1 kj22 a2 l3 t993 t996 t1008 true a0_0 a0_1 l0_2 a1_0 a1_1)) = some r := H
    have A76 := Aside0.mk A760
    clear A760
    by_cases c77 : t1027 = true
    ·subst c77
     have H1 : (laws_FnExactWalkOfSteps.j1 kj22 a2 l3 t993 t996 t1008 (t1011 != t996) a0_0 a0_1 l0_2 a1_0 a1_1) = some r := by rw [if_pos rfl] at H; exact H
     clear H
     have H := H1
     clear H1
     have H' := Aside0.mk H
     clear H
     obtain ⟨Ao78, co78, eo78⟩ := Kd.R_slice HO_14.out
     subst eo78
     obtain ⟨Ao79, co79, eo79⟩ := Kd.R_slice HO_10.out
     subst eo79
     go_wp2_with (first | (go_at_call 18; (with_reducible refine (laws_eqIntS.calls kj22 _ _ t1008 _ _ t993 true _ ?side1 ?side2 ?side3 ?side4 A76.out).mono ?_); (case side1 => exact zan13); (case side2 => exact (Kd.R_reads' HO_14.out).2.1); (case side3 => exact zan20); (case side4 => exact (Kd.R_reads' HO_10.out).2.1); rintro e w' ⟨rfl, ⟨nd, rfl⟩⟩))
     go_meet
     case rel => exact ⟨_, ((t1011 != t996)), zan34, H', ⟨by have := HJ22.out; first | omega | exact Nat.le_refl _⟩, ⟨zan32⟩, ⟨zan33⟩, ⟨zan31⟩, ⟨zan2⟩, ⟨zan4⟩, ⟨zan6⟩, ⟨zan1⟩⟩
    replace c77 := Bool.eq_false_iff.mpr c77
    subst c77
    have H1 : (laws_FnExactWalkOfSteps.j1 kj22 a2 l3 t993 t996 t1008 true a0_0 a0_1 l0_2 a1_0 a1_1) = some r := by rw [if_neg (show ¬ (false = true) by decide)] at H; exact H
    clear H
    have H := H1
    clear H1
    have H' := Aside0.mk H
    clear H
    obtain ⟨Ao80, co80, eo80⟩ := Kd.R_slice HO_14.out
    subst eo80
    obtain ⟨Ao81, co81, eo81⟩ := Kd.R_slice HO_10.out
    subst eo81
    go_wp2_with (first | (go_at_call 18; (with_reducible refine (laws_eqIntS.calls kj22 _ _ t1008 _ _ t993 false _ ?side1 ?side2 ?side3 ?side4 A76.out).mono ?_); (case side1 => exact zan13); (case side2 => exact (Kd.R_reads' HO_14.out).2.1); (case side3 => exact zan20); (case side4 => exact (Kd.R_reads' HO_10.out).2.1); rintro e w' ⟨rfl, ⟨nd, rfl⟩⟩))
    go_meet
    case rel => exact ⟨_, (true), zan34, H', ⟨by have := HJ22.out; first | omega | exact Nat.le_refl _⟩, ⟨zan32⟩, ⟨zan33⟩, ⟨zan31⟩, ⟨zan2⟩, ⟨zan4⟩, ⟨zan6⟩, ⟨zan1⟩⟩
   case rest =>
    clear HC63
    try clear c1; try clear c2; try clear p2; try clear c3; try clear c4; try clear c5; try clear c5b0; try clear c5b1; try clear c6; try clear c7; try clear c8; try clear c9; try clear c9b0; try clear c12; try clear c14; try clear c15; try clear c16; try clear c18; try clear c19; try clear c20; try clear c21; try clear c26; try clear c31; try clear c32; try clear c39; try clear c40; try clear c49; try clear c54; try clear c57; try clear c60; try clear c70; try clear c71; try clear c75; try clear c75b0; try clear c77; try clear hcz13_0; try clear hcz13_1; try clear hcz13_2; try clear hcz27_0; try clear hcz27_1
    try clear hcz27_2; try clear hcz36_0; try clear hcz36_1; try clear hcz36_2; try clear hcz41_0; try clear hcz41_1; try clear hcz41_2; try clear hcz72_0; try clear hcz72_1; try clear hcz72_2; try clear hfz13_0; try clear hfz13_1; try clear hfz13_2; try clear hfz27_0; try clear hfz27_1; try clear hfz27_2; try clear hfz36_0; try clear hfz36_1; try clear hfz36_2; try clear hfz41_0; try clear hfz41_1; try clear hfz41_2; try clear hfz72_0; try clear hfz72_1; try clear hfz72_2; try clear p2
    obtain ⟨kq, x90_62, rfl, HA, HJ62, HO_10, HO_14, HO_1003002, BK980, BK981, BK1002, HB⟩ := hcut
    have hl1003002_62 := (Kd.R_reads' HO_1003002.out).1
    rw [hl1003002_62] at HO_1003002
    (try simp only [hl1003002_62])
    (try simp only [hl1003002_62] at BK980)
    (try simp only [hl1003002_62] at BK981)
    (try simp only [hl1003002_62] at BK1002)
    (try simp only [hl1003002_62] at HO_10)
    (try simp only [hl1003002_62] at HO_14)
    cases kq with
    | zero => exact absurd HA.out (by simp [laws_FnExactWalkOfSteps.j1])
    | succ kj62 =>
     have H := HA.out
     clear HA
     simp only [laws_FnExactWalkOfSteps.j1] at H
     by_cases c82 : x90_62 = true
     ·subst c82
      have H1 : (some false) = some r := by rw [if_pos rfl] at H; exact H
      clear H
      have H := H1
      clear H1
      obtain rfl := Option.some.inj H
      go_wp2
      go_ret
      exact ⟨zan16, zan1⟩
     replace c82 := Bool.eq_false_iff.mpr c82
     subst c82
     have H1 : ((laws_markIntS.f kj62 t1008 1).bind fun bt1028 => ((laws_heldIntS.f kj62 bt1028.2 1).bind fun t1030 => (if t1030 < 0 then (some false) else (if t1030 = bt1028.1 then ((laws_toBoard.f kj62 a0_0 a0_1 l0_2).bind fun bt1031 => ((laws_toLeaper.f a1_0 a1_1).bind fun bt1036 => ((laws_toIntS.f kj62 l3).bind fun t1038 => ((impl_WalkOfSteps.f kj62 bt1031.1 bt1031.2.1 bt1031.2.2 bt1036.1 bt1036.2 a2 t1038).bind fun bt1041 => ((laws_eqIntS.f kj62 bt1041.1 t993).bind fun t1045 => (if t1045 = true then (laws_FnExactWalkOfSteps.j2 kj62 bt1028.2 bt1028.1 (bt1041.2 != t996)) else (laws_FnExactWalkOfSteps.j2 kj62 bt1028.2 bt1028.1 true))))))) else (some false))))) = some r := by rw [if_neg (show ¬ (false = true) by decide)] at H; exact H
     clear H
     have H := H1
     clear H1
     replace H := Option.bind_eq_some_iff.mp H
     obtain ⟨⟨t1028, t1029⟩, A830, H⟩ := H
     replace H : ((laws_heldIntS.f kj62 t1029 1).bind fun t1030 => (if t1030 < 0 then (some false) else (if t1030 = t1028 then ((laws_toBoard.f kj62 a0_0 a0_1 l0_2).bind fun bt1031 => ((laws_toLeaper.f a1_0 a1_1).bind fun bt1036 => ((laws_toIntS.f kj62 l3).bind fun t1038 => ((impl_WalkOfSteps.f kj62 bt1031.1 bt1031.2.1 bt1031.2.2 bt1036.1 bt1036.2 a2 t1038).bind fun bt1041 => ((laws_eqIntS.f kj62 bt1041.1 t993).bind fun t1045 => (if t1045 = true then (laws_FnExactWalkOfSteps.j2 kj62 t1029 t1028 (bt1041.2 != t996)) else (laws_FnExactWalkOfSteps.j2 kj62 t1029 t1028 true))))))) else (some false)))) = some r := H
     have A83 := Aside0.mk A830
     clear A830
     replace H := Option.bind_eq_some_iff.mp H
     obtain ⟨t1030, A840, H⟩ := H
     replace H : (if t1030 < 0 then (some false) else (if t1030 = t1028 then ((laws_toBoard.f kj62 a0_0 a0_1 l0_2).bind fun bt1031 => ((laws_toLeaper.f a1_0 a1_1).bind fun bt1036 => ((laws_toIntS.f kj62 l3).bind fun t1038 => ((impl_WalkOfSteps.f kj62 bt1031.1 bt1031.2.1 bt1031.2.2 bt1036.1 bt1036.2 a2 t1038).bind fun bt1041 => ((laws_eqIntS.f kj62 bt1041.1 t993).bind fun t1045 => (if t1045 = true then (laws_FnExactWalkOfSteps.j2 kj62 t1029 t1028 (bt1041.2 != t996)) else (laws_FnExactWalkOfSteps.j2 kj62 t1029 t1028 true))))))) else (some false))) = some r := H
     have A84 := Aside0.mk A840
     clear A840
     by_cases c85 : t1030 < 0
     ·rw [if_pos c85] at H
      have c85b0 : decide (t1030 < 0) = true := decide_eq_true c85
      clear c85
      obtain rfl := Option.some.inj H
      obtain ⟨Ao86, co86, eo86⟩ := Kd.R_slice HO_14.out
      subst eo86
      go_wp2_with (first | ((with_reducible refine gate_callee (f := 21) rfl ?_); refine goesL_ (some 93) rfl rfl Try.func21 (by kernel_rfl) rfl #[.slice Ao86 t1008.length co86, .int .i64 1] rfl zan3 ?_; (with_reducible refine (laws_markIntS.calls kj62 (fun k_ => some k_ = (.slice Ao86 t1008.length co86 : Value).ownBlock) (.slice Ao86 t1008.length co86) t1008 1 t1028 t1029 w _ ?side1 ?side2 A83.out).mono ?_); (case side1 => exact zan1); (case side2 => exact Kd.R_tight rfl HO_14.out); rintro e w87 ⟨rfl, hy0, hb, hkp⟩; refine ⟨_, rfl, ?_⟩; have n0_ := Aside0.mk (Kd.R_mono (ok' := fun k_ => some k_ ≠ (.slice Ao86 t1008.length co86 : Value).ownBlock ∧ some k_ ≠ (.slice Ao42 t1024.length co42 : Value).ownBlock) (Kd.R_keptB (HO_10.out) hkp (fun k_ hk_ hs_ => (hk_.1) hs_)) (fun k_ hk_ => ⟨hk_.1.1, hk_.1.2⟩)); have n1_ := Aside0.mk (Kd.R_reok rfl hy0 (fun k_ e_ => HO_14.out.1 k_ e_)); have n2_ := Aside0.mk (Kd.R_mono (ok' := fun k_ => some k_ ≠ (v994 : Value).ownBlock ∧ some k_ ≠ (.slice Ao86 t1008.length co86 : Value).ownBlock) (Kd.R_keptB (HO_1003002.out) hkp (fun k_ hk_ hs_ => (hk_.2) hs_)) (fun k_ hk_ => ⟨hk_.1.1, hk_.1.2⟩)); have n3_ := Aside0.mk (blk_kept zan2 hkp (fun hs_ => (fun e_ => (Kd.R_ne HO_14.out BK980.out (by decide)) e_) hs_)); have n4_ := Aside0.mk (blk_kept zan4 hkp (fun hs_ => (fun e_ => (Kd.R_ne HO_14.out BK981.out (by decide)) e_) hs_)); have n5_ := Aside0.mk (blk_kept zan6 hkp (fun hs_ => (fun e_ => (Kd.R_ne HO_14.out BK1002.out (by decide)) e_) hs_)); have n6_ := Aside0.mk (hb); clear HO_10; clear HO_14; clear HO_1003002; clear BK980; clear BK981; clear BK1002; clear HB; have HO_10 := n0_; have HO_14 := n1_; have HO_1003002 := n2_; have BK980 := n3_; have BK981 := n4_; have BK1002 := n5_; have HB := n6_; clear n0_ n1_ n2_ n3_ n4_ n5_ n6_; (try clear hb); (try clear hkp); (try clear hy0)) | ((with_reducible refine gate_callee (f := 22) rfl ?_); refine goesL_ (some 96) rfl rfl Try.func22 (by kernel_rfl) rfl #[.slice Ao86 t1029.length co86, .int .i64 1] rfl zan22 ?_; (with_reducible refine (laws_heldIntS.calls kj62 _ _ t1029 1 t1030 _ ?side1 ?side2 A84.out).mono ?_); (case side1 => exact zan13); (case side2 => exact zan36); rintro e w' ⟨rfl, ⟨nd, rfl⟩⟩; refine ⟨_, rfl, ?_⟩))
      go_ret
      exact ⟨zan16, zan1⟩
     rw [if_neg c85] at H
     have c85b0 : decide (t1030 < 0) = false := decide_eq_false c85
     clear c85
     by_cases c88 : t1030 = t1028
     rotate_left
     ·rw [if_neg c88] at H
      have c88b0 : (t1030 == t1028) = false := beq_eq_false_iff_ne.mpr c88
      have c88b1 : (t1030 != t1028) = true := bne_iff_ne.mpr c88
      obtain rfl := Option.some.inj H
      obtain ⟨Ao113, co113, eo113⟩ := Kd.R_slice HO_14.out
      subst eo113
      go_wp2_with (first | ((with_reducible refine gate_callee (f := 21) rfl ?_); refine goesL_ (some 93) rfl rfl Try.func21 (by kernel_rfl) rfl #[.slice Ao113 t1008.length co113, .int .i64 1] rfl zan3 ?_; (with_reducible refine (laws_markIntS.calls kj62 (fun k_ => some k_ = (.slice Ao113 t1008.length co113 : Value).ownBlock) (.slice Ao113 t1008.length co113) t1008 1 t1028 t1029 w _ ?side1 ?side2 A83.out).mono ?_); (case side1 => exact zan1); (case side2 => exact Kd.R_tight rfl HO_14.out); rintro e w114 ⟨rfl, hy0, hb, hkp⟩; refine ⟨_, rfl, ?_⟩; have n0_ := Aside0.mk (Kd.R_mono (ok' := fun k_ => some k_ ≠ (.slice Ao113 t1008.length co113 : Value).ownBlock ∧ some k_ ≠ (.slice Ao42 t1024.length co42 : Value).ownBlock) (Kd.R_keptB (HO_10.out) hkp (fun k_ hk_ hs_ => (hk_.1) hs_)) (fun k_ hk_ => ⟨hk_.1.1, hk_.1.2⟩)); have n1_ := Aside0.mk (Kd.R_reok rfl hy0 (fun k_ e_ => HO_14.out.1 k_ e_)); have n2_ := Aside0.mk (Kd.R_mono (ok' := fun k_ => some k_ ≠ (v994 : Value).ownBlock ∧ some k_ ≠ (.slice Ao113 t1008.length co113 : Value).ownBlock) (Kd.R_keptB (HO_1003002.out) hkp (fun k_ hk_ hs_ => (hk_.2) hs_)) (fun k_ hk_ => ⟨hk_.1.1, hk_.1.2⟩)); have n3_ := Aside0.mk (blk_kept zan2 hkp (fun hs_ => (fun e_ => (Kd.R_ne HO_14.out BK980.out (by decide)) e_) hs_)); have n4_ := Aside0.mk (blk_kept zan4 hkp (fun hs_ => (fun e_ => (Kd.R_ne HO_14.out BK981.out (by decide)) e_) hs_)); have n5_ := Aside0.mk (blk_kept zan6 hkp (fun hs_ => (fun e_ => (Kd.R_ne HO_14.out BK1002.out (by decide)) e_) hs_)); have n6_ := Aside0.mk (hb); clear HO_10; clear HO_14; clear HO_1003002; clear BK980; clear BK981; clear BK1002; clear HB; have HO_10 := n0_; have HO_14 := n1_; have HO_1003002 := n2_; have BK980 := n3_; have BK981 := n4_; have BK1002 := n5_; have HB := n6_; clear n0_ n1_ n2_ n3_ n4_ n5_ n6_; (try clear hb); (try clear hkp); (try clear hy0)) | ((with_reducible refine gate_callee (f := 22) rfl ?_); refine goesL_ (some 96) rfl rfl Try.func22 (by kernel_rfl) rfl #[.slice Ao113 t1029.length co113, .int .i64 1] rfl zan22 ?_; (with_reducible refine (laws_heldIntS.calls kj62 _ _ t1029 1 t1030 _ ?side1 ?side2 A84.out).mono ?_); (case side1 => exact zan13); (case side2 => exact zan36); rintro e w' ⟨rfl, ⟨nd, rfl⟩⟩; refine ⟨_, rfl, ?_⟩))
      go_ret
      exact ⟨zan16, zan1⟩
     rw [if_pos c88] at H
     have c88b0 : (t1030 == t1028) = true := beq_iff_eq.mpr c88
     have c88b1 : (t1030 != t1028) = false := bne_eq_false_iff_eq.mpr c88
     clear c88
     replace H := Option.bind_eq_some_iff.mp H
     obtain ⟨⟨t1031, t1032, t1033⟩, A890, H⟩ := H
     replace H : ((laws_toLeaper.f a1_0 a1_1).bind fun bt1036 => ((laws_toIntS.f kj62 l3).bind fun t1038 => ((impl_WalkOfSteps.f kj62 t1031 t1032 t1033 bt1036.1 bt1036.2 a2 t1038).bind fun bt1041 => ((laws_eqIntS.f kj62 bt1041.1 t993).bind fun t1045 => (if t1045 = true then (laws_FnExactWalkOfSteps.j2 kj62 t1029 t1028 (bt1041.2 != t996)) else (laws_FnExactWalkOfSteps.j2 kj62 t1029 t1028 true)))))) = some r := H
     have A89 := Aside0.mk A890
     clear A890
     replace H := Option.bind_eq_some_iff.mp H
     obtain ⟨⟨t1036, t1037⟩, A900, H⟩ := H
     replace H : ((laws_toIntS.f kj62 l3).bind fun t1038 => ((impl_WalkOfSteps.f kj62 t1031 t1032 t1033 t1036 t1037 a2 t1038).bind fun bt1041 => ((laws_eqIntS.f kj62 bt1041.1 t993).bind fun t1045 => (if t1045 = true then (laws_FnExactWalkOfSteps.j2 kj62 t1029 t1028 (bt1041.2 != t996)) else (laws_FnExactWalkOfSteps.j2 kj62 t1029 t1028 true))))) = some r := H
     have A90 := Aside0.mk A900
     clear A900
     replace H := Option.bind_eq_some_iff.mp H
     obtain ⟨t1038, A910, H⟩ := H
     replace H : ((impl_WalkOfSteps.f kj62 t1031 t1032 t1033 t1036 t1037 a2 t1038).bind fun bt1041 => ((laws_eqIntS.f kj62 bt1041.1 t993).bind fun t1045 => (if t1045 = true then (laws_FnExactWalkOfSteps.j2 kj62 t1029 t1028 (bt1041.2 != t996)) else (laws_FnExactWalkOfSteps.j2 kj62 t1029 t1028 true)))) = some r := H
     have A91 := Aside0.mk A910
     clear A910
     replace H := Option.bind_eq_some_iff.mp H
     obtain ⟨⟨t1041, t1044⟩, A920, H⟩ := H
     replace H : ((laws_eqIntS.f kj62 t1041 t993).bind fun t1045 => (if t1045 = true then (laws_FnExactWalkOfSteps.j2 kj62 t1029 t1028 (t1044 != t996)) else (laws_FnExactWalkOfSteps.j2 kj62 t1029 t1028 true))) = some r := H
     have A92 := Aside0.mk A920
     clear A920
     have HC93 := Aside0.mk H
     clear H
     obtain ⟨Ao94, co94, eo94⟩ := Kd.R_slice HO_14.out
     subst eo94
     try go_wp2_with (first | ((with_reducible refine gate_callee (f := 21) rfl ?_); refine goesL_ (some 93) rfl rfl Try.func21 (by kernel_rfl) rfl #[.slice Ao94 t1008.length co94, .int .i64 1] rfl zan3 ?_; (with_reducible refine (laws_markIntS.calls kj62 (fun k_ => some k_ = (.slice Ao94 t1008.length co94 : Value).ownBlock) (.slice Ao94 t1008.length co94) t1008 1 t1028 t1029 w _ ?side1 ?side2 A83.out).mono ?_); (case side1 => exact zan1); (case side2 => exact Kd.R_tight rfl HO_14.out); rintro e w95 ⟨rfl, hy0, hb, hkp⟩; refine ⟨_, rfl, ?_⟩; have n0_ := Aside0.mk (Kd.R_mono (ok' := fun k_ => some k_ ≠ (.slice Ao94 t1008.length co94 : Value).ownBlock ∧ some k_ ≠ (.slice Ao42 t1024.length co42 : Value).ownBlock) (Kd.R_keptB (HO_10.out) hkp (fun k_ hk_ hs_ => (hk_.1) hs_)) (fun k_ hk_ => ⟨hk_.1.1, hk_.1.2⟩)); have n1_ := Aside0.mk (Kd.R_reok rfl hy0 (fun k_ e_ => HO_14.out.1 k_ e_)); have n2_ := Aside0.mk (Kd.R_mono (ok' := fun k_ => some k_ ≠ (v994 : Value).ownBlock ∧ some k_ ≠ (.slice Ao94 t1008.length co94 : Value).ownBlock) (Kd.R_keptB (HO_1003002.out) hkp (fun k_ hk_ hs_ => (hk_.2) hs_)) (fun k_ hk_ => ⟨hk_.1.1, hk_.1.2⟩)); have n3_ := Aside0.mk (blk_kept zan2 hkp (fun hs_ => (fun e_ => (Kd.R_ne HO_14.out BK980.out (by decide)) e_) hs_)); have n4_ := Aside0.mk (blk_kept zan4 hkp (fun hs_ => (fun e_ => (Kd.R_ne HO_14.out BK981.out (by decide)) e_) hs_)); have n5_ := Aside0.mk (blk_kept zan6 hkp (fun hs_ => (fun e_ => (Kd.R_ne HO_14.out BK1002.out (by decide)) e_) hs_)); have n6_ := Aside0.mk (hb); clear HO_10; clear HO_14; clear HO_1003002; clear BK980; clear BK981; clear BK1002; clear HB; have HO_10 := n0_; have HO_14 := n1_; have HO_1003002 := n2_; have BK980 := n3_; have BK981 := n4_; have BK1002 := n5_; have HB := n6_; clear n0_ n1_ n2_ n3_ n4_ n5_ n6_; (try clear hb); (try clear hkp); (try clear hy0)) | ((with_reducible refine gate_callee (f := 22) rfl ?_); refine goesL_ (some 96) rfl rfl Try.func22 (by kernel_rfl) rfl #[.slice Ao94 t1029.length co94, .int .i64 1] rfl zan22 ?_; (with_reducible refine (laws_heldIntS.calls kj62 _ _ t1029 1 t1030 _ ?side1 ?side2 A84.out).mono ?_); (case side1 => exact zan13); (case side2 => exact zan36); rintro e w' ⟨rfl, ⟨nd, rfl⟩⟩; refine ⟨_, rfl, ?_⟩))
     (try (rw [drewN_self w95]; generalize hq_ : World.drewN w95 _ = w95; have n0_ : Aside0 (Kd.R (Kd.int .i64) 3 w95 w.heap.size (fun k_ => (some k_ ≠ (.slice Ao94 t1008.length co94 : Value).ownBlock ∧ some k_ ≠ (.slice Ao42 t1024.length co42 : Value).ownBlock)) v994 t993) := ⟨by rw [← hq_]; exact zan9⟩; have n1_ : Aside0 (Kd.R (Kd.int .i64) 3 w95 w.heap.size (fun k_ => (some k_ ≠ (v994 : Value).ownBlock ∧ some k_ ≠ (.slice Ao94 t1008.length co94 : Value).ownBlock)) (.slice Ao42 t1024.length co42) t1024) := ⟨by rw [← hq_]; exact zan7⟩; have n2_ : Aside0 (Kd.R (Kd.int .i64) 3 w95 w.heap.size (fun k_ => (some k_ ≠ (v994 : Value).ownBlock ∧ some k_ ≠ (.slice Ao42 t1024.length co42 : Value).ownBlock)) (.slice Ao94 t1008.length co94) t1029) := ⟨by rw [← hq_]; exact zan8⟩; have n3_ : Aside0 (w95.heap[gb1002]? = some (.cells #[.int .i64 t997, .int .i64 t998, .slice Ao42 t1024.length co42] 30 (0, 0))) := ⟨by rw [← hq_]; exact zan6⟩; have n4_ : Aside0 (w95.heap[gb980]? = some (.cells #[.int .i64 a0_0, .int .i64 a0_1, .slice A0_2 l0_2.length c0_2] 24 (0, 0))) := ⟨by rw [← hq_]; exact zan2⟩; have n5_ : Aside0 (w95.heap[gb981]? = some (.cells #[.int .i64 a1_0, .int .i64 a1_1] 26 (0, 0))) := ⟨by rw [← hq_]; exact zan4⟩; have n6_ : Aside0 (Below w.heap.size w w95) := ⟨by rw [← hq_]; exact zan1⟩; clear HO_10 HO_1003002 HO_14 BK1002 BK980 BK981 HB hq_; have HO_10 := n0_; have HO_1003002 := n1_; have HO_14 := n2_; have BK1002 := n3_; have BK980 := n4_; have BK981 := n5_; have HB := n6_; clear n0_ n1_ n2_ n3_ n4_ n5_ n6_))
     have n0_ := Aside0.mk (Kd.R_drew HO_10.out)
     have n1_ := Aside0.mk (Kd.R_drew HO_14.out)
     have n2_ := Aside0.mk (Kd.R_drew HO_1003002.out)
     have n3_ := Aside0.mk (blk_drew BK980.out)
     have n4_ := Aside0.mk (blk_drew BK981.out)
     have n5_ := Aside0.mk (blk_drew BK1002.out)
     have n6_ := Aside0.mk (below_drew1 HB.out)
     clear HO_10
     clear HO_14
     clear HO_1003002
     clear BK980
     clear BK981
     clear BK1002
     clear HB
     have HO_10 := n0_
     have HO_14 := n1_
     have HO_1003002 := n2_
     have BK980 := n3_
     have BK981 := n4_
     have BK1002 := n5_
     have HB := n6_
     clear n0_ n1_ n2_ n3_ n4_ n5_ n6_
     refine start_ (n := 13) (S := fun w' => w'.cell? ⟨gb980, 0, none⟩ = some (.int .i64 a0_0) ∧ w'.cell? ⟨gb980, 1, none⟩ = some (.int .i64 a0_1) ∧ w'.cell? ⟨gb980, 2, none⟩ = some (.slice A0_2 l0_2.length c0_2) ∧ w'.cell? ⟨gb981, 0, none⟩ = some (.int .i64 a1_0) ∧ w'.cell? ⟨gb981, 1, none⟩ = some (.int .i64 a1_1)) (ds := []) #[false, false, false, false, false, false, false, false, false, false, false, false, false] (by kernel_rfl) rfl rfl ⟨(blk_cell BK980.out 0).trans rfl, (blk_cell BK980.out 1).trans rfl, (blk_cell BK980.out 2).trans rfl, (blk_cell BK981.out 0).trans rfl, (blk_cell BK981.out 1).trans rfl⟩ (fun hHeld => ?_); refine with_tabW laws_FnExactWalkOfSteps.tab30 laws_FnExactWalkOfSteps.bits30 (fun HT_ HW_ => ?_)
     generalize w95.drew = w96 at HO_10 HO_14 HO_1003002 BK980 BK981 BK1002 HB hHeld ⊢
     refine pure_ (i := 4) (N := some 107) (v := ?_) (a' := ?_) #[false, false, false, false, true, false, false, false, false, false, false, false, false] rfl rfl (any_of HT_.out (by kernel_rfl)) (fun _ _ _ h => h) (Or.inl ⟨by rfl, ?_⟩) ?_ ?_
     rotate_left
     ·intro w'
      go_simp
      with_reducible rfl
     rotate_left
     ·simp only [Act.put, List.setIfInBounds_toArray, List.set_cons_zero, List.set_cons_succ, i64_w, i32_w]
      rfl
     refine pure_ (i := 5) (N := some 108) (v := ?_) (a' := ?_) #[false, false, false, false, true, true, false, false, false, false, false, false, false] rfl rfl (any_of HT_.out (by kernel_rfl)) (fun _ _ _ h => h) (Or.inl ⟨by rfl, ?_⟩) ?_ ?_
     rotate_left
     ·intro w'
      go_simp
      with_reducible rfl
     rotate_left
     ·simp only [Act.put, List.setIfInBounds_toArray, List.set_cons_zero, List.set_cons_succ, i64_w, i32_w]
      rfl
     refine take_ (i := 0) (N := some 103) (v := ?_) (a' := ?_) #[true, false, false, false, true, true, false, false, false, false, false, false, false] rfl rfl (take_ofW HT_.out HW_.out (by kernel_rfl)) (fun _ _ _ h => h) (Or.inl ⟨by rfl, ?_⟩) hHeld ?_ ?_
     rotate_left
     ·rintro w' ⟨s0, s1, s2, s3, s4⟩
      go_simp
      with_reducible rfl
     rotate_left
     ·simp only [Act.put, List.setIfInBounds_toArray, List.set_cons_zero, List.set_cons_succ, i64_w, i32_w]
      rfl
     refine take_ (i := 2) (N := some 105) (v := ?_) (a' := ?_) #[true, false, true, false, true, true, false, false, false, false, false, false, false] rfl rfl (take_ofW HT_.out HW_.out (by kernel_rfl)) (fun _ _ _ h => h) (Or.inl ⟨by rfl, ?_⟩) hHeld ?_ ?_
     rotate_left
     ·rintro w' ⟨s0, s1, s2, s3, s4⟩
      go_simp
      with_reducible rfl
     rotate_left
     ·simp only [Act.put, List.setIfInBounds_toArray, List.set_cons_zero, List.set_cons_succ, i64_w, i32_w]
      rfl
     refine one_ (i := 1) (N := some 104) #[true, true, true, false, true, true, false, false, false, false, false, false, false] rfl rfl (one_of HT_.out (by kernel_rfl)) (by decide) (fun K hK => ?_)
     refine goes_ Try.func14 (by kernel_rfl) rfl #[.agg #[.int .i64 a0_0, .int .i64 a0_1, .slice A0_2 l0_2.length c0_2]] (by rfl) rfl rfl zan3 ?_
     with_reducible refine (laws_toBoard.calls kj62 a0_0 a0_1 _ _ l0_2 t1031 t1032 t1033 _ ?side1 ?side2 A89.out).mono ?_
     (case side1 => exact zan12)
     (case side2 => exact HC0_2.out)
     rintro e w97 ⟨v1034, rfl, ho0, hb⟩
     refine ⟨_, rfl, ?_⟩
     have n0_ := Aside0.mk (Kd.R_elder' zan9 (Kd.R_base ho0) hb)
     have n1_ := Aside0.mk (Kd.R_elder' zan8 (Kd.R_base ho0) hb)
     have n2_ := Aside0.mk (Kd.R_elder' zan7 (Kd.R_base ho0) hb)
     have n3_ := Aside0.mk (Kd.R_lower (Kd.R_new' (Kd.R_new' (Kd.R_new' ho0 (Kd.R_lt zan9)) (Kd.R_lt zan8)) (Kd.R_lt zan7)) (below_size zan1))
     have n4_ := Aside0.mk (blk_below (g := gb980) (o := .cells #[.int .i64 a0_0, .int .i64 a0_1, .slice A0_2 l0_2.length c0_2] 24 (0, 0)) zan2 hb)
     have n5_ := Aside0.mk (blk_below (g := gb981) (o := .cells #[.int .i64 a1_0, .int .i64 a1_1] 26 (0, 0)) zan4 hb)
     have n6_ := Aside0.mk (blk_below (g := gb1002) (o := .cells #[.int .i64 t997, .int .i64 t998, .slice Ao42 t1024.length co42] 30 (0, 0)) zan6 hb)
     have n7_ := Aside0.mk (below_step zan1 hb)
     clear HO_10
     clear HO_14
     clear HO_1003002
     clear BK980
     clear BK981
     clear BK1002
     clear HB
     have HO_10 := n0_
     have HO_14 := n1_
     have HO_1003002 := n2_
     have HO1035 := n3_
     have BK980 := n4_
     have BK981 := n5_
     have BK1002 := n6_
     have HB := n7_
     clear n0_ n1_ n2_ n3_ n4_ n5_ n6_ n7_
     (try clear hb)
     (try clear hb2)
     (try clear hk)
     (try clear hi)
     (try clear ho0)
     (try clear hna_)
     (try clear hnb_)
     refine hK.out _ _ ⟨(blk_cell BK980.out 0).trans rfl, (blk_cell BK980.out 1).trans rfl, (blk_cell BK980.out 2).trans rfl, (blk_cell BK981.out 0).trans rfl, (blk_cell BK981.out 1).trans rfl⟩ (fun hHeld => ?_)
     clear hK K
     refine norm_ (a' := ?_) ?_ ?_
     rotate_left
     ·show Act.put _ (some 104) _ = _
      simp only [Act.put, List.setIfInBounds_toArray, List.set_cons_zero, List.set_cons_succ, i64_w, i32_w]
      rfl
     refine one_ (i := 3) (N := some 106) #[true, true, true, true, true, true, false, false, false, false, false, false, false] rfl rfl (one_of HT_.out (by kernel_rfl)) (by decide) (fun K hK => ?_)
     refine goes_ Try.func15 (by kernel_rfl) rfl #[.agg #[.int .i64 a1_0, .int .i64 a1_1]] (by rfl) rfl rfl zan3 ?_
     with_reducible refine (laws_toLeaper.calls a1_0 a1_1 t1036 t1037 _ A90.out).mono ?_
     rintro e w98 ⟨rfl, hb⟩
     refine ⟨_, rfl, ?_⟩
     have n0_ := Aside0.mk (Kd.R_below zan9 hb)
     have n1_ := Aside0.mk (Kd.R_below zan8 hb)
     have n2_ := Aside0.mk (Kd.R_below zan7 hb)
     have n3_ := Aside0.mk (Kd.R_below zan27 hb)
     have n4_ := Aside0.mk (blk_below (g := gb980) (o := .cells #[.int .i64 a0_0, .int .i64 a0_1, .slice A0_2 l0_2.length c0_2] 24 (0, 0)) zan2 hb)
     have n5_ := Aside0.mk (blk_below (g := gb981) (o := .cells #[.int .i64 a1_0, .int .i64 a1_1] 26 (0, 0)) zan4 hb)
     have n6_ := Aside0.mk (blk_below (g := gb1002) (o := .cells #[.int .i64 t997, .int .i64 t998, .slice Ao42 t1024.length co42] 30 (0, 0)) zan6 hb)
     have n7_ := Aside0.mk (below_step zan1 hb)
     clear HO_10
     clear HO_14
     clear HO_1003002
     clear HO1035
     clear BK980
     clear BK981
     clear BK1002
     clear HB
     have HO_10 := n0_
     have HO_14 := n1_
     have HO_1003002 := n2_
     have HO1035 := n3_
     have BK980 := n4_
     have BK981 := n5_
     have BK1002 := n6_
     have HB := n7_
     clear n0_ n1_ n2_ n3_ n4_ n5_ n6_ n7_
     (try clear hb)
     (try clear hb2)
     (try clear hk)
     (try clear hi)
     (try clear hna_)
     (try clear hnb_)
     refine hK.out _ _ ⟨(blk_cell BK980.out 0).trans rfl, (blk_cell BK980.out 1).trans rfl, (blk_cell BK980.out 2).trans rfl, (blk_cell BK981.out 0).trans rfl, (blk_cell BK981.out 1).trans rfl⟩ (fun hHeld => ?_)
     clear hK K
     refine norm_ (a' := ?_) ?_ ?_
     rotate_left
     ·show Act.put _ (some 106) _ = _
      simp only [Act.put, List.setIfInBounds_toArray, List.set_cons_zero, List.set_cons_succ, i64_w, i32_w]
      rfl
     refine one_ (i := 6) (N := some 109) #[true, true, true, true, true, true, true, false, false, false, false, false, false] rfl rfl (one_of HT_.out (by kernel_rfl)) (by decide) (fun K hK => ?_)
     refine goes_ Try.func16 (by kernel_rfl) rfl #[.slice A3 l3.length c3] (by rfl) rfl rfl zan3 ?_
     with_reducible refine (laws_toIntS.calls kj62 _ _ l3 t1038 _ ?side1 ?side2 A91.out).mono ?_
     (case side1 => exact zan21)
     (case side2 => exact HC3.out)
     rintro e w99 ⟨v1039, rfl, ho0, hb⟩
     refine ⟨_, rfl, ?_⟩
     have n0_ := Aside0.mk (Kd.R_elder' zan9 (Kd.R_base ho0) hb)
     have n1_ := Aside0.mk (Kd.R_elder' zan8 (Kd.R_base ho0) hb)
     have n2_ := Aside0.mk (Kd.R_elder' zan7 (Kd.R_base ho0) hb)
     have n3_ := Aside0.mk (Kd.R_elder' zan27 (Kd.R_base ho0) hb)
     have n4_ := Aside0.mk (Kd.R_lower (Kd.R_new' (Kd.R_new' (Kd.R_new' (Kd.R_new' ho0 (Kd.R_lt zan9)) (Kd.R_lt zan8)) (Kd.R_lt zan7)) (Kd.R_lt zan27)) (below_size zan1))
     have n5_ := Aside0.mk (blk_below (g := gb980) (o := .cells #[.int .i64 a0_0, .int .i64 a0_1, .slice A0_2 l0_2.length c0_2] 24 (0, 0)) zan2 hb)
     have n6_ := Aside0.mk (blk_below (g := gb981) (o := .cells #[.int .i64 a1_0, .int .i64 a1_1] 26 (0, 0)) zan4 hb)
     have n7_ := Aside0.mk (blk_below (g := gb1002) (o := .cells #[.int .i64 t997, .int .i64 t998, .slice Ao42 t1024.length co42] 30 (0, 0)) zan6 hb)
     have n8_ := Aside0.mk (below_step zan1 hb)
     clear HO_10
     clear HO_14
     clear HO_1003002
     clear HO1035
     clear BK980
     clear BK981
     clear BK1002
     clear HB
     have HO_10 := n0_
     have HO_14 := n1_
     have HO_1003002 := n2_
     have HO1035 := n3_
     have HO1040 := n4_
     have BK980 := n5_
     have BK981 := n6_
     have BK1002 := n7_
     have HB := n8_
     clear n0_ n1_ n2_ n3_ n4_ n5_ n6_ n7_ n8_
     (try clear hb)
     (try clear hb2)
     (try clear hk)
     (try clear hi)
     (try clear ho0)
     (try clear hna_)
     (try clear hnb_)
     obtain ⟨Ao100, co100, eo100⟩ := Kd.R_slice HO1035.out
     (first | subst eo100 | (injection eo100 with f1_ f2_ f3_; have f4_ := f1_.symm; have f5_ := f3_.symm; clear f1_ f2_ f3_; subst f4_; subst f5_))
     obtain ⟨Ao101, co101, eo101⟩ := Kd.R_slice HO1040.out
     (first | subst eo101 | (injection eo101 with f1_ f2_ f3_; have f4_ := f1_.symm; have f5_ := f3_.symm; clear f1_ f2_ f3_; subst f4_; subst f5_))
     refine hK.out _ _ ⟨(blk_cell BK980.out 0).trans rfl, (blk_cell BK980.out 1).trans rfl, (blk_cell BK980.out 2).trans rfl, (blk_cell BK981.out 0).trans rfl, (blk_cell BK981.out 1).trans rfl⟩ (fun hHeld => ?_)
     clear hK K
     refine norm_ (a' := ?_) ?_ ?_
     rotate_left
     ·show Act.put _ (some 109) _ = _
      simp only [Act.put, List.setIfInBounds_toArray, List.set_cons_zero, List.set_cons_succ, i64_w, i32_w]
      rfl
     refine one_ (i := 7) (N := some 110) #[true, true, true, true, true, true, true, true, false, false, false, false, false] rfl rfl (one_of HT_.out (by kernel_rfl)) (by decide) (fun K hK => ?_)
     refine goes_ Try.func32 (by kernel_rfl) rfl #[.agg #[.int .i64 t1031, .int .i64 t1032, .slice Ao100 t1033.length co100], .agg #[.int .i64 t1036, .int .i64 t1037], .int .i64 a2, .slice Ao101 t1038.length co101] (by rfl) rfl rfl zan3 ?_
     with_reducible refine (impl_WalkOfSteps.calls kj62 t1031 t1032 _ _ t1033 t1036 t1037 a2 _ _ t1038 t1041 t1044 _ ?side1 ?side2 ?side3 ?side4 A92.out).mono ?_
     (case side1 => repeat (first | exact (Kd.R_reads' HO1035.out).2.2 | (with_reducible refine Kd.C_alloc ?_ _) | (with_reducible refine Kd.C_drewN ?_ _) | (with_reducible refine Kd.C_drew ?_)))
     (case side2 => exact (Kd.R_reads' HO1035.out).2.1)
     (case side3 => repeat (first | exact (Kd.R_reads' HO1040.out).2.2 | (with_reducible refine Kd.C_alloc ?_ _) | (with_reducible refine Kd.C_drewN ?_ _) | (with_reducible refine Kd.C_drew ?_)))
     (case side4 => exact (Kd.R_reads' HO1040.out).2.1)
     rintro e w102 ⟨v1042, rfl, ho0, hb⟩
     refine ⟨_, rfl, ?_⟩
     have n0_ := Aside0.mk (Kd.R_elder' zan9 (Kd.R_base ho0) hb)
     have n1_ := Aside0.mk (Kd.R_elder' zan8 (Kd.R_base ho0) hb)
     have n2_ := Aside0.mk (Kd.R_elder' zan7 (Kd.R_base ho0) hb)
     have n3_ := Aside0.mk (Kd.R_elder' zan27 (Kd.R_base ho0) hb)
     have n4_ := Aside0.mk (Kd.R_elder' (by first | exact HO1040.out | ((with_reducible repeat (first | apply Kd.R_alloc | apply Kd.R_drewN | apply Kd.R_drew)); exact HO1040.out)) (Kd.R_base ho0) hb)
     have n5_ := Aside0.mk (Kd.R_lower (Kd.R_new' (Kd.R_new' (Kd.R_new' (Kd.R_new' (Kd.R_new' ho0 (Kd.R_lt zan9)) (Kd.R_lt zan8)) (Kd.R_lt zan7)) (Kd.R_lt zan27)) (Kd.R_lt (by first | exact HO1040.out | ((with_reducible repeat (first | apply Kd.R_alloc | apply Kd.R_drewN | apply Kd.R_drew)); exact HO1040.out)))) (below_size zan1))
     have n6_ := Aside0.mk (blk_below (g := gb980) (o := .cells #[.int .i64 a0_0, .int .i64 a0_1, .slice A0_2 l0_2.length c0_2] 24 (0, 0)) zan2 hb)
     have n7_ := Aside0.mk (blk_below (g := gb981) (o := .cells #[.int .i64 a1_0, .int .i64 a1_1] 26 (0, 0)) zan4 hb)
     have n8_ := Aside0.mk (blk_below (g := gb1002) (o := .cells #[.int .i64 t997, .int .i64 t998, .slice Ao42 t1024.length co42] 30 (0, 0)) zan6 hb)
     have n9_ := Aside0.mk (below_step zan1 hb)
     clear HO_10
     clear HO_14
     clear HO_1003002
     clear HO1035
     clear HO1040
     clear BK980
     clear BK981
     clear BK1002
     clear HB
     have HO_10 := n0_
     have HO_14 := n1_
     have HO_1003002 := n2_
     have HO1035 := n3_
     have HO1040 := n4_
     have HO1043 := n5_
     have BK980 := n6_
     have BK981 := n7_
     have BK1002 := n8_
     have HB := n9_
     clear n0_ n1_ n2_ n3_ n4_ n5_ n6_ n7_ n8_ n9_
     (try clear hb)
     (try clear hb2)
     (try clear hk)
     (try clear hi)
     (try clear ho0)
     (try clear hna_)
     (try clear hnb_)
     refine hK.out _ _ ⟨(blk_cell BK980.out 0).trans rfl, (blk_cell BK980.out 1).trans rfl, (blk_cell BK980.out 2).trans rfl, (blk_cell BK981.out 0).trans rfl, (blk_cell BK981.out 1).trans rfl⟩ (fun hHeld => ?_)
     clear hK K
     refine norm_ (a' := ?_) ?_ ?_
     rotate_left
     ·show Act.put _ (some 110) _ = _
      simp only [Act.put, List.setIfInBounds_toArray, List.set_cons_zero, List.set_cons_succ, i64_w, i32_w]
      rfl
     refine pure_ (i := 8) (N := some 102) (v := ?_) (a' := ?_) #[true, true, true, true, true, true, true, true, true, false, false, false, false] rfl rfl (any_of HT_.out (by kernel_rfl)) (fun _ _ _ h => h) (Or.inl ⟨by rfl, ?_⟩) ?_ ?_
     rotate_left
     ·intro w'
      go_simp
      with_reducible rfl
     rotate_left
     ·simp only [Act.put, List.setIfInBounds_toArray, List.set_cons_zero, List.set_cons_succ, i64_w, i32_w]
      rfl
     refine pure_ (i := 9) (N := some 111) (v := ?_) (a' := ?_) #[true, true, true, true, true, true, true, true, true, true, false, false, false] rfl rfl (any_of HT_.out (by kernel_rfl)) (fun _ _ _ h => h) (Or.inl ⟨by rfl, ?_⟩) ?_ ?_
     rotate_left
     ·intro w'
      go_simp
      with_reducible rfl
     rotate_left
     ·simp only [Act.put, List.setIfInBounds_toArray, List.set_cons_zero, List.set_cons_succ, i64_w, i32_w]
      rfl
     refine pure_ (i := 10) (N := some 112) (v := ?_) (a' := ?_) #[true, true, true, true, true, true, true, true, true, true, true, false, false] rfl rfl (any_of HT_.out (by kernel_rfl)) (fun _ _ _ h => h) (Or.inl ⟨by rfl, ?_⟩) ?_ ?_
     rotate_left
     ·intro w'
      go_simp
      with_reducible rfl
     rotate_left
     ·simp only [Act.put, List.setIfInBounds_toArray, List.set_cons_zero, List.set_cons_succ, i64_w, i32_w]
      rfl
     refine pure_ (i := 11) (N := some 19) (v := ?_) (a' := ?_) #[true, true, true, true, true, true, true, true, true, true, true, true, false] rfl rfl (any_of HT_.out (by kernel_rfl)) (fun _ _ _ h => h) (Or.inl ⟨by rfl, ?_⟩) ?_ ?_
     rotate_left
     ·intro w'
      go_simp
      with_reducible rfl
     rotate_left
     ·simp only [Act.put, List.setIfInBounds_toArray, List.set_cons_zero, List.set_cons_succ, i64_w, i32_w]
      rfl
     refine pure_ (i := 12) (N := some 20) (v := ?_) (a' := ?_) #[true, true, true, true, true, true, true, true, true, true, true, true, true] rfl rfl (any_of HT_.out (by kernel_rfl)) (fun _ _ _ h => h) (Or.inl ⟨by rfl, ?_⟩) ?_ ?_
     rotate_left
     ·intro w'
      go_simp
      with_reducible rfl
     rotate_left
     ·simp only [Act.put, List.setIfInBounds_toArray, List.set_cons_zero, List.set_cons_succ, i64_w, i32_w]
      rfl
     refine done_ (done_of HT_.out (by kernel_rfl)) ?_
     go_upto_region 31 with (fail)
     go_cut [121] (fun v121 wc => ∃ (kq : Nat) (x121_92 : Bool), v121 = .bool x121_92 ∧ Aside0 (laws_FnExactWalkOfSteps.j2 kq t1029 t1028 x121_92 = some r) ∧ Aside0 (kq ≤ kj62) ∧ Aside0 (Kd.R (Kd.int .i64) 3 wc w.heap.size (fun k_ => some k_ ≠ ((.slice Ao42 t1024.length co42) : Value).ownBlock) (.slice Ao94 t1008.length co94) t1029) ∧ Aside0 (Kd.R (Kd.int .i64) 3 wc w.heap.size (fun k_ => some k_ ≠ ((.slice Ao94 t1008.length co94) : Value).ownBlock) (.slice Ao42 t1024.length co42) t1024) ∧ Aside0 (wc.heap[gb980]? = some (.cells #[.int .i64 a0_0, .int .i64 a0_1, (.slice A0_2 l0_2.length c0_2)] 24 (0, 0))) ∧ Aside0 (wc.heap[gb981]? = some (.cells #[.int .i64 a1_0, .int .i64 a1_1] 26 (0, 0))) ∧ Aside0 (wc.heap[gb1002]? = some (.cells #[.int .i64 t997, .int .i64 t998, (.slice Ao42 t1024.length co42)] 30 (0, 0))) ∧ Aside0 (Below w.heap.size w wc))
     case first =>
      have H := HC93.out
      clear HC93
      replace H := Option.bind_eq_some_iff.mp H
      obtain ⟨t1045, A1030, H⟩ := H
      replace H : (if t1045 = true then (laws_FnExactWalkOfSteps.j2 kj62 t1029 t1028 (t1044 != t996)) else (laws_FnExactWalkOfSteps.j2 kj62 t1029 t1028 true)) = some r := H
      have A103 := Aside0.mk A1030
      clear A1030
      by_cases c104 : t1045 = true
      ·subst c104
       have H1 : (laws_FnExactWalkOfSteps.j2 kj62 t1029 t1028 (t1044 != t996)) = some r := by rw [if_pos rfl] at H; exact H
       clear H
       have H := H1
       clear H1
       have H' := Aside0.mk H
       clear H
       obtain ⟨Ao105, co105, eo105⟩ := Kd.R_slice HO1043.out
       subst eo105
       obtain ⟨Ao106, co106, eo106⟩ := Kd.R_slice HO_10.out
       subst eo106
       go_wp2_with (first | ((with_reducible refine gate_callee (f := 18) rfl ?_); refine goesL_ (some 115) rfl rfl Try.func18 (by kernel_rfl) rfl #[.slice Ao105 t1041.length co105, .slice Ao106 t993.length co106] rfl zan3 ?_; (with_reducible refine (laws_eqIntS.calls kj62 _ _ t1041 _ _ t993 true _ ?side1 ?side2 ?side3 ?side4 A103.out).mono ?_); (case side1 => exact zan43); (case side2 => exact (Kd.R_reads' HO1043.out).2.1); (case side3 => exact zan20); (case side4 => exact (Kd.R_reads' HO_10.out).2.1); rintro e w' ⟨rfl, ⟨nd, rfl⟩⟩; refine ⟨_, rfl, ?_⟩))
       go_meet
       case rel => exact ⟨_, ((t1044 != t996)), zan34, H', ⟨by have := HJ22.out; have := HJ62.out; first | omega | exact Nat.le_refl _⟩, ⟨zan38⟩, ⟨zan37⟩, ⟨zan50⟩, ⟨zan49⟩, ⟨zan48⟩, ⟨zan1⟩⟩
      replace c104 := Bool.eq_false_iff.mpr c104
      subst c104
      have H1 : (laws_FnExactWalkOfSteps.j2 kj62 t1029 t1028 true) = some r := by rw [if_neg (show ¬ (false = true) by decide)] at H; exact H
      clear H
      have H := H1
      clear H1
      have H' := Aside0.mk H
      clear H
      obtain ⟨Ao107, co107, eo107⟩ := Kd.R_slice HO1043.out
      subst eo107
      obtain ⟨Ao108, co108, eo108⟩ := Kd.R_slice HO_10.out
      subst eo108
      go_wp2_with (first | ((with_reducible refine gate_callee (f := 18) rfl ?_); refine goesL_ (some 115) rfl rfl Try.func18 (by kernel_rfl) rfl #[.slice Ao107 t1041.length co107, .slice Ao108 t993.length co108] rfl zan3 ?_; (with_reducible refine (laws_eqIntS.calls kj62 _ _ t1041 _ _ t993 false _ ?side1 ?side2 ?side3 ?side4 A103.out).mono ?_); (case side1 => exact zan43); (case side2 => exact (Kd.R_reads' HO1043.out).2.1); (case side3 => exact zan20); (case side4 => exact (Kd.R_reads' HO_10.out).2.1); rintro e w' ⟨rfl, ⟨nd, rfl⟩⟩; refine ⟨_, rfl, ?_⟩))
      go_meet
      case rel => exact ⟨_, (true), zan34, H', ⟨by have := HJ22.out; have := HJ62.out; first | omega | exact Nat.le_refl _⟩, ⟨zan38⟩, ⟨zan37⟩, ⟨zan50⟩, ⟨zan49⟩, ⟨zan48⟩, ⟨zan1⟩⟩
     case rest =>
      clear HC93
      try clear c1; try clear c2; try clear p2; try clear c3; try clear c4; try clear c5; try clear c5b0; try clear c5b1; try clear c6; try clear c7; try clear c8; try clear c9; try clear c9b0; try clear c10; try clear c12; try clear c14; try clear c15; try clear c16; try clear c18; try clear c19; try clear c20; try clear c21; try clear c22; try clear c26; try clear c31; try clear c32; try clear c39; try clear c40; try clear c49; try clear c54; try clear c57; try clear c60; try clear c70; try clear c71; try clear c75; try clear c75b0; try clear c77; try clear c82; try clear c85; try clear c85b0; try clear c88
      try clear c88b0; try clear c88b1; try clear c104; try clear hcz13_0; try clear hcz13_1; try clear hcz13_2; try clear hcz27_0; try clear hcz27_1; try clear hcz27_2; try clear hcz36_0; try clear hcz36_1; try clear hcz36_2; try clear hcz41_0; try clear hcz41_1; try clear hcz41_2; try clear hcz72_0; try clear hcz72_1; try clear hcz72_2; try clear hfz13_0; try clear hfz13_1; try clear hfz13_2; try clear hfz27_0; try clear hfz27_1; try clear hfz27_2; try clear hfz36_0; try clear hfz36_1; try clear hfz36_2; try clear hfz41_0; try clear hfz41_1; try clear hfz41_2; try clear hfz72_0; try clear hfz72_1; try clear hfz72_2
      try clear p2
      obtain ⟨kq, x121_92, rfl, HA, HJ92, HO_14, HO_1003002, BK980, BK981, BK1002, HB⟩ := hcut
      have hl14_92 := (Kd.R_reads' HO_14.out).1
      rw [hl14_92] at HO_14
      (try simp only [hl14_92])
      (try simp only [hl14_92] at BK980)
      (try simp only [hl14_92] at BK981)
      (try simp only [hl14_92] at BK1002)
      (try simp only [hl14_92] at HO_1003002)
      cases kq with
      | zero => exact absurd HA.out (by simp [laws_FnExactWalkOfSteps.j2])
      | succ kj92 =>
       have H := HA.out
       clear HA
       simp only [laws_FnExactWalkOfSteps.j2] at H
       by_cases c109 : x121_92 = true
       ·subst c109
        have H1 : (some false) = some r := by rw [if_pos rfl] at H; exact H
        clear H
        have H := H1
        clear H1
        obtain rfl := Option.some.inj H
        go_wp2
        go_ret
        exact ⟨zan16, zan1⟩
       replace c109 := Bool.eq_false_iff.mpr c109
       subst c109
       have H1 : ((laws_heldIntS.f kj92 t1029 1).bind fun t1046 => (if t1046 < 0 then (some false) else (if t1046 = t1028 then (some true) else (some false)))) = some r := by rw [if_neg (show ¬ (false = true) by decide)] at H; exact H
       clear H
       have H := H1
       clear H1
       replace H := Option.bind_eq_some_iff.mp H
       obtain ⟨t1046, A1100, H⟩ := H
       replace H : (if t1046 < 0 then (some false) else (if t1046 = t1028 then (some true) else (some false))) = some r := H
       have A110 := Aside0.mk A1100
       clear A1100
       by_cases c111 : t1046 < 0
       ·rw [if_pos c111] at H
        have c111b0 : decide (t1046 < 0) = true := decide_eq_true c111
        clear c111
        obtain rfl := Option.some.inj H
        go_wp2_with (first | ((with_reducible refine gate_callee (f := 22) rfl ?_); refine goesL_ (some 124) rfl rfl Try.func22 (by kernel_rfl) rfl #[.slice Ao94 t1029.length co94, .int .i64 1] rfl zan3 ?_; (with_reducible refine (laws_heldIntS.calls kj92 _ _ t1029 1 t1046 _ ?side1 ?side2 A110.out).mono ?_); (case side1 => exact zan13); (case side2 => exact (Kd.R_reads' HO_14.out).2.1); rintro e w' ⟨rfl, ⟨nd, rfl⟩⟩; refine ⟨_, rfl, ?_⟩))
        go_ret
        exact ⟨zan16, zan1⟩
       rw [if_neg c111] at H
       have c111b0 : decide (t1046 < 0) = false := decide_eq_false c111
       clear c111
       by_cases c112 : t1046 = t1028
       rotate_left
       ·rw [if_neg c112] at H
        have c112b0 : (t1046 == t1028) = false := beq_eq_false_iff_ne.mpr c112
        have c112b1 : (t1046 != t1028) = true := bne_iff_ne.mpr c112
        obtain rfl := Option.some.inj H
        go_wp2_with (first | ((with_reducible refine gate_callee (f := 22) rfl ?_); refine goesL_ (some 124) rfl rfl Try.func22 (by kernel_rfl) rfl #[.slice Ao94 t1029.length co94, .int .i64 1] rfl zan3 ?_; (with_reducible refine (laws_heldIntS.calls kj92 _ _ t1029 1 t1046 _ ?side1 ?side2 A110.out).mono ?_); (case side1 => exact zan13); (case side2 => exact (Kd.R_reads' HO_14.out).2.1); rintro e w' ⟨rfl, ⟨nd, rfl⟩⟩; refine ⟨_, rfl, ?_⟩))
        go_ret
        exact ⟨zan16, zan1⟩
       rw [if_pos c112] at H
       have c112b0 : (t1046 == t1028) = true := beq_iff_eq.mpr c112
       have c112b1 : (t1046 != t1028) = false := bne_eq_false_iff_eq.mpr c112
       clear c112
       obtain rfl := Option.some.inj H
       go_wp2_with (first | ((with_reducible refine gate_callee (f := 22) rfl ?_); refine goesL_ (some 124) rfl rfl Try.func22 (by kernel_rfl) rfl #[.slice Ao94 t1029.length co94, .int .i64 1] rfl zan3 ?_; (with_reducible refine (laws_heldIntS.calls kj92 _ _ t1029 1 t1046 _ ?side1 ?side2 A110.out).mono ?_); (case side1 => exact zan13); (case side2 => exact (Kd.R_reads' HO_14.out).2.1); rintro e w' ⟨rfl, ⟨nd, rfl⟩⟩; refine ⟨_, rfl, ?_⟩))
       go_ret
       exact ⟨zan16, zan1⟩

end Go.Proofs.Ytbecdckdbeoomaa.Q

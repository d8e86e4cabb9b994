/- Written by a program of this session: functions of the translation as plain Lean functions, each with a proof that the call does what the plain function says; the conditions stand in each theorem. -/
import Derived.Test.YthoklbeenjppbaaQ0
import Derived.Test.YthoklbeenjppbaaQ1
import Derived.Test.YthoklbeenjppbaaQ2
import Derived.Test.YthoklbeenjppbaaQ5
import Derived.Test.YthoklbeenjppbaaQ31
import Derived.Test.YthoklbeenjppbaaQ42
namespace Go.Proofs.Ythoklbeenjppbaa.Q
open Go.RowKit Go.Proofs.YthoklbeenjppbaaW.PrintWords Go.Proofs.YthoklbeenjppbaaW.PrintLast Go.Proofs.YthoklbeenjppbaaW.PrintMore
attribute [local go_sem] max2_int min2_int max_two min_two max_three min_three max_four min_four   -- for this text's walks alone
set_option linter.unusedVariables false
set_option linter.unusedSimpArgs false

theorem zar1 {p : Prop} (h : p := by repeat (first | (with_reducible first | exact HB.out | apply below_alloc | apply pw_below_drewN | apply below_drew1 | refine below_set ?_ GE1106.out | refine below_set ?_ GE1107.out | refine below_set ?_ GE1128.out) | exact HB.out)) : p := h
theorem zar2 {p : Prop} (h : p := by (with_reducible repeat (first | refine blk_drewN ?_ _ | refine blk_drew ?_ | refine blk_alloc ?_ _)); exact BK1106.out) : p := h
theorem zar3 {p : Prop} (h : p := by (try simp only [List.map_toArray, List.map_cons, List.map_nil]); first | done | rfl | (simp only [List.length_drop, List.length_take]; rfl)) : p := h
theorem zar4 {p : Prop} (h : p := by (with_reducible repeat (first | refine blk_drewN ?_ _ | refine blk_drew ?_ | refine blk_alloc ?_ _)); exact BK1107.out) : p := h
theorem zar6 {p : Prop} (h : p := by repeat (first | (with_reducible first | exact HB.out | apply below_alloc | apply pw_below_drewN | apply below_drew1 | refine below_set ?_ GE1106.out | refine below_set ?_ GE1107.out) | exact HB.out)) : p := h
theorem zar7 {p : Prop} (h : p := by (with_reducible repeat (first | refine blk_drewN ?_ _ | refine blk_drew ?_ | refine blk_alloc ?_ _)); exact BK1128.out) : p := h
theorem zar8 {p : Prop} (h : p := by (with_reducible repeat (first | apply Kd.R_alloc | apply Kd.R_drewN | apply Kd.R_drew)); exact HO_1129002.out) : p := h
theorem zar9 {p : Prop} (h : p := by (with_reducible repeat (first | apply Kd.R_alloc | apply Kd.R_drewN | apply Kd.R_drew)); exact HO_12.out) : p := h
theorem zar10 {p : Prop} (h : p := by (with_reducible repeat (first | apply Kd.R_alloc | apply Kd.R_drewN | apply Kd.R_drew)); exact HO_8.out) : p := h
theorem zar11 {p : Prop} (h : p := by repeat (first | (with_reducible first | exact HB.out | apply below_alloc | apply pw_below_drewN | apply below_drew1 | refine below_set ?_ GE1106.out) | exact HB.out)) : p := h
theorem zar12 {p : Prop} (h : p := by (with_reducible repeat (first | apply Kd.R_alloc | apply Kd.R_drewN | apply Kd.R_drew)); exact HO_11.out) : p := h
theorem zar13 {p : Prop} (h : p := by repeat (first | exact (Kd.C_below HR0_2.out HB.out) | (with_reducible refine Kd.C_alloc ?_ _) | (with_reducible refine Kd.C_drewN ?_ _) | (with_reducible refine Kd.C_drew ?_))) : p := h
theorem zar14 {p : Prop} (h : p := by repeat (first | exact (Kd.R_reads' HO_12.out).2.2 | (with_reducible refine Kd.C_alloc ?_ _) | (with_reducible refine Kd.C_drewN ?_ _) | (with_reducible refine Kd.C_drew ?_))) : p := h
theorem zar15 {p : Prop} (h : p := by repeat (first | (with_reducible first | exact HB.out | apply below_alloc | apply pw_below_drewN | apply below_drew1) | exact HB.out)) : p := h
theorem zar16 {p : Prop} (h : p := by (with_reducible repeat (first | apply Kd.R_alloc | apply Kd.R_drewN | apply Kd.R_drew)); exact HO1113.out) : p := h
theorem zar17 {p : Prop} (h : p := by first | rfl | (simp [errW_none, errW_some] <;> rfl) | (simp [*, errW_none, errW_some] <;> rfl)) : p := h
theorem zar18 {p : Prop} (h : p := by (with_reducible repeat (first | apply Kd.R_alloc | apply Kd.R_drewN | apply Kd.R_drew)); exact HO1118.out) : p := h
theorem zar19 {p : Prop} (h : p := by (with_reducible repeat (first | apply Kd.R_alloc | apply Kd.R_drewN | apply Kd.R_drew)); exact HO1143.out) : p := h
theorem zar20 {p : Prop} (h : p := by (with_reducible repeat (first | apply Kd.R_alloc | apply Kd.R_drewN | apply Kd.R_drew)); exact HO1121.out) : p := h
theorem zar21 {p : Prop} (h : p := by repeat (first | exact (Kd.C_below HR2.out HB.out) | (with_reducible refine Kd.C_alloc ?_ _) | (with_reducible refine Kd.C_drewN ?_ _) | (with_reducible refine Kd.C_drew ?_))) : p := h
theorem zar22 {p : Prop} (h : p := by repeat (first | exact (Kd.R_reads' HO_8.out).2.2 | (with_reducible refine Kd.C_alloc ?_ _) | (with_reducible refine Kd.C_drewN ?_ _) | (with_reducible refine Kd.C_drew ?_))) : p := h
theorem zar23 {p : Prop} (h : p := by (try simp only [List.map_toArray, List.map_cons, List.map_nil]); first | done | (rw [show t1155.length = t1134.length from (Kd.R_reads' HO_12.out).1.symm] <;> rfl) | rfl | (simp only [List.length_drop, List.length_take]; rfl)) : p := h
theorem zar24 {p : Prop} (h : p := by (with_reducible repeat (first | apply Kd.R_alloc | apply Kd.R_drewN | apply Kd.R_drew)); exact (Kd.R_mono (Kd.R_far (p := ⟨gb1128, 2, none⟩) (Kd.R_far (p := ⟨gb1128, 1, none⟩) (Kd.R_far (p := ⟨gb1128, 0, none⟩) (Kd.R_types HO1127.out BK1128.out (by decide)) (fun _ hk => hk.2) (.int .i64 t1123)) (fun _ hk => hk.2) (.int .i64 t1124)) (fun _ hk => hk.2) (.slice Ao41 t1125.length co41)) (fun _ h_ => h_.1))) : p := h
theorem zar25 {p : Prop} (h : p := by (with_reducible repeat (first | apply Kd.R_alloc | apply Kd.R_drewN | apply Kd.R_drew)); exact (Kd.R_mono (Kd.R_far (p := ⟨gb1128, 2, none⟩) (Kd.R_far (p := ⟨gb1128, 1, none⟩) (Kd.R_far (p := ⟨gb1128, 0, none⟩) (Kd.R_types HO1121.out BK1128.out (by decide)) (fun _ hk => hk.2) (.int .i64 t1123)) (fun _ hk => hk.2) (.int .i64 t1124)) (fun _ hk => hk.2) (.slice Ao41 t1125.length co41)) (fun _ h_ => h_.1))) : p := h
theorem zar26 {p : Prop} (h : p := by (with_reducible repeat (first | apply Kd.R_alloc | apply Kd.R_drewN | apply Kd.R_drew)); exact (Kd.R_mono (Kd.R_far (p := ⟨gb1128, 2, none⟩) (Kd.R_far (p := ⟨gb1128, 1, none⟩) (Kd.R_far (p := ⟨gb1128, 0, none⟩) (Kd.R_types HO1118.out BK1128.out (by decide)) (fun _ hk => hk.2) (.int .i64 t1123)) (fun _ hk => hk.2) (.int .i64 t1124)) (fun _ hk => hk.2) (.slice Ao41 t1125.length co41)) (fun _ h_ => h_.1))) : p := h
theorem zar27 {p : Prop} (h : p := by (with_reducible repeat (first | apply Kd.R_alloc | apply Kd.R_drewN | apply Kd.R_drew)); exact (Kd.R_mono (Kd.R_far (p := ⟨gb1128, 2, none⟩) (Kd.R_far (p := ⟨gb1128, 1, none⟩) (Kd.R_far (p := ⟨gb1128, 0, none⟩) (Kd.R_types HO1113.out BK1128.out (by decide)) (fun _ hk => hk.2) (.int .i64 t1123)) (fun _ hk => hk.2) (.int .i64 t1124)) (fun _ hk => hk.2) (.slice Ao41 t1125.length co41)) (fun _ h_ => h_.1))) : p := h
theorem zar28 {p : Prop} (h : p := by (with_reducible repeat (first | apply Kd.R_alloc | apply Kd.R_drewN | apply Kd.R_drew)); exact HO1161.out) : p := h
theorem zar29 {p : Prop} (h : p := by repeat (first | exact (Kd.R_reads' HO_1129002.out).2.2 | (with_reducible refine Kd.C_alloc ?_ _) | (with_reducible refine Kd.C_drewN ?_ _) | (with_reducible refine Kd.C_drew ?_))) : p := h
theorem zar30 {p : Prop} (h : p := by repeat (first | exact (Kd.R_reads' HO1143.out).2.2 | (with_reducible refine Kd.C_alloc ?_ _) | (with_reducible refine Kd.C_drewN ?_ _) | (with_reducible refine Kd.C_drew ?_))) : p := h
theorem zar31 {p : Prop} (h : p := by (with_reducible repeat (first | apply Kd.R_alloc | apply Kd.R_drewN | apply Kd.R_drew)); exact HO1127.out) : p := h
theorem zar32 {p : Prop} (h : p := by (with_reducible repeat (first | apply Kd.R_alloc | apply Kd.R_drewN | apply Kd.R_drew)); exact Kd.R_mono HO_1129002.out (fun _ hk => ⟨hk.1, hk.2.2.1⟩)) : p := h
theorem zar33 {p : Prop} (h : p := by (with_reducible repeat (first | apply Kd.R_alloc | apply Kd.R_drewN | apply Kd.R_drew)); exact Kd.R_mono HO_8.out (fun _ hk => ⟨hk.2.1, hk.2.2.1⟩)) : p := h
theorem zar34 {p : Prop} (h : p := by (with_reducible repeat (first | apply Kd.R_alloc | apply Kd.R_drewN | apply Kd.R_drew)); exact Kd.R_mono HO_12.out (fun _ hk => ⟨hk.1, hk.2.2.1⟩)) : p := h
theorem zar35 {p : Prop} (h : p := by first | rfl | (simp; done) | (simp [*]; done)) : p := h
theorem zar36 {p : Prop} (h : p := by (with_reducible repeat (first | apply Kd.R_alloc | apply Kd.R_drewN | apply Kd.R_drew)); exact HO1131.out) : p := h
theorem zar37 {p : Prop} (h : p := by rw [show t1155.length = t1134.length from (Kd.R_reads' HO_12.out).1.symm]; exact (Kd.R_reads' HO_12.out).2.1) : p := h
theorem zar38 {p : Prop} (h : p := by (try simp only [hl1129002_61]); (with_reducible repeat (first | apply Kd.R_alloc | apply Kd.R_drewN | apply Kd.R_drew)); exact Kd.R_mono HO_1129002.out (fun _ hk => hk.1.1.1.2)) : p := h
theorem zar39 {p : Prop} (h : p := by (try simp only [hl1129002_61]); (with_reducible repeat (first | apply Kd.R_alloc | apply Kd.R_drewN | apply Kd.R_drew)); exact Kd.R_mono HO_12.out (fun _ hk => hk.1.1.1.2)) : p := h
theorem zar40 {p : Prop} (h : p := by (with_reducible repeat (first | apply Kd.R_alloc | apply Kd.R_drewN | apply Kd.R_drew)); exact Kd.R_mono HO1136.out (fun _ hk => ⟨hk.1.1.2, ⟨hk.2, hk.1.2⟩⟩)) : p := h
theorem zar41 {p : Prop} (h : p := by (with_reducible repeat (first | apply Kd.R_alloc | apply Kd.R_drewN | apply Kd.R_drew)); exact Kd.R_mono HO1131.out (fun _ hk => ⟨hk.1.1.2, ⟨hk.2, hk.1.2⟩⟩)) : p := h
theorem zar42 {p : Prop} (h : p := by (with_reducible repeat (first | apply Kd.R_alloc | apply Kd.R_drewN | apply Kd.R_drew)); exact Kd.R_mono HO1127.out (fun _ hk => ⟨hk.1.1.2, ⟨hk.1.2, hk.2⟩⟩)) : p := h
theorem zar43 {p : Prop} (h : p := by (with_reducible repeat (first | apply Kd.R_alloc | apply Kd.R_drewN | apply Kd.R_drew)); exact Kd.R_mono HO1121.out (fun _ hk => ⟨hk.1.2, ⟨hk.2, hk.1.1.2⟩⟩)) : p := h
theorem zar44 {p : Prop} (h : p := by repeat (first | exact (Kd.R_reads' HO1169.out).2.2 | (with_reducible refine Kd.C_alloc ?_ _) | (with_reducible refine Kd.C_drewN ?_ _) | (with_reducible refine Kd.C_drew ?_))) : p := h
theorem zar45 {p : Prop} (h : p := by repeat (first | exact (Kd.R_reads' HO1147.out).2.2 | (with_reducible refine Kd.C_alloc ?_ _) | (with_reducible refine Kd.C_drewN ?_ _) | (with_reducible refine Kd.C_drew ?_))) : p := h
theorem zar46 {p : Prop} (h : p := by repeat (first | exact (Kd.R_reads' HO1136.out).2.2 | (with_reducible refine Kd.C_alloc ?_ _) | (with_reducible refine Kd.C_drewN ?_ _) | (with_reducible refine Kd.C_drew ?_))) : p := h
theorem zar47 {p : Prop} (h : p := by repeat (first | exact (Kd.R_reads' HO1121.out).2.2 | (with_reducible refine Kd.C_alloc ?_ _) | (with_reducible refine Kd.C_drewN ?_ _) | (with_reducible refine Kd.C_drew ?_))) : p := h
theorem zar48 {p : Prop} (h : p := by repeat (first | exact (Kd.R_reads' HO_11.out).2.2 | (with_reducible refine Kd.C_alloc ?_ _) | (with_reducible refine Kd.C_drewN ?_ _) | (with_reducible refine Kd.C_drew ?_))) : p := h
theorem zar49 {p : Prop} (h : p := by (try simp only [hl1129002_61]); (with_reducible repeat (first | refine blk_drewN ?_ _ | refine blk_drew ?_ | refine blk_alloc ?_ _)); exact BK1128.out) : p := h
theorem zar50 {p : Prop} (h : p := by (try simp only [hl1129002_61]); (with_reducible repeat (first | refine blk_drewN ?_ _ | refine blk_drew ?_ | refine blk_alloc ?_ _)); exact BK1107.out) : p := h
theorem zar51 {p : Prop} (h : p := by (try simp only [hl1129002_61]); (with_reducible repeat (first | refine blk_drewN ?_ _ | refine blk_drew ?_ | refine blk_alloc ?_ _)); exact BK1106.out) : p := h
theorem zar52 {p : Prop} (h : p := by rw [hg]; exact Nat.ne_of_lt (blk_lt (g := gb1106) (o := .cells #[.int .i64 a0_0, .int .i64 a0_1, .slice A0_2 l0_2.length c0_2] 24 (0, 0)) zar2)) : p := h
theorem zar53 {p : Prop} (h : p := by rw [hg]; exact Nat.ne_of_gt (blk_lt (g := gb1106) (o := .cells #[.int .i64 a0_0, .int .i64 a0_1, .slice A0_2 l0_2.length c0_2] 24 (0, 0)) zar2)) : p := h
theorem zar54 {p : Prop} (h : p := by rw [hg]; exact (below_size zar15)) : p := h
theorem zar55 {p : Prop} (h : p := by rw [hg]; exact (below_size zar11)) : p := h
/-! ### laws_FnExactColumnSumsOf: function 12 -/
mutual
def laws_FnExactColumnSumsOf.j0 : Nat → List Int → List Int → Bool → List Int → List Int → Bool → Bool → Int → Int → List Int → Int → Int → Int → Int → List Int → Option (Bool)
 | 0, _, _, _, _, _, _, _, _, _, _, _, _, _, _, _ => none
 | k + 1, x2, x8, x9, x11, x12, x13, x57, x1107000, x1107001, x1107002, x1108000, x1108001, x1129000, x1129001, x1129002 => if x57 = true then (some false) else ((laws_toBoard.f k x1107000 x1107001 x1107002).bind fun bt1139 => ((laws_eqBoard.f k x1129000 x1129001 x1129002 bt1139.1 bt1139.2.1 bt1139.2.2).bind fun t1144 => (if t1144 = true then ((laws_toIntS.f k x2).bind fun t1145 => ((laws_eqIntS.f k x11 t1145).bind fun t1148 => (if t1148 = true then ((laws_markBoard.f k x1129000 x1129001 x1129002 1).bind fun bt1149 => ((laws_markIntS.f k x11 bt1149.1).bind fun bt1151 => (if bt1151.1 < 0 then (laws_FnExactColumnSumsOf.j1 k x2 x8 x9 x12 true x1107000 x1107001 x1107002 x1108000 x1108001) else ((laws_eqIntS.f k x12 x8).bind fun t1153 => (if t1153 = true then (laws_FnExactColumnSumsOf.j1 k x2 x8 x9 x12 (x13 != x9) x1107000 x1107001 x1107002 x1108000 x1108001) else (laws_FnExactColumnSumsOf.j1 k x2 x8 x9 x12 true x1107000 x1107001 x1107002 x1108000 x1108001)))))) else (some false)))) else (some false))))
def laws_FnExactColumnSumsOf.j1 : Nat → List Int → List Int → Bool → List Int → Bool → Int → Int → List Int → Int → Int → Option (Bool)
 | 0, _, _, _, _, _, _, _, _, _, _ => none
 | k + 1, x2, x8, x9, x12, x86, x1107000, x1107001, x1107002, x1108000, x1108001 => if x86 = true then (some false) else ((laws_markIntS.f k x12 1).bind fun bt1154 => ((laws_heldIntS.f k bt1154.2 1).bind fun t1156 => (if t1156 < 0 then (some false) else (if t1156 = bt1154.1 then ((laws_toBoard.f k x1107000 x1107001 x1107002).bind fun bt1157 => ((laws_toLeaper.f x1108000 x1108001).bind fun bt1162 => ((laws_toIntS.f k x2).bind fun t1164 => ((impl_ColumnSumsOf.f k bt1157.1 bt1157.2.1 bt1157.2.2 bt1162.1 bt1162.2 t1164).bind fun bt1167 => ((laws_eqIntS.f k bt1167.1 x8).bind fun t1171 => (if t1171 = true then (laws_FnExactColumnSumsOf.j2 k bt1154.2 bt1154.1 (bt1167.2 != x9)) else (laws_FnExactColumnSumsOf.j2 k bt1154.2 bt1154.1 true))))))) else (some false)))))
def laws_FnExactColumnSumsOf.j2 : Nat → List Int → Int → Bool → Option (Bool)
 | 0, _, _, _ => none
 | k + 1, x12, x15, x116 => if x116 = true then (some false) else ((laws_heldIntS.f k x12 1).bind fun t1172 => (if t1172 < 0 then (some false) else (if t1172 = x15 then (some true) else (some false))))
end
def laws_FnExactColumnSumsOf.f (k : Nat) (a0_0 : Int) (a0_1 : Int) (l0_2 : List Int) (a1_0 : Int) (a1_1 : Int) (l2 : List Int) : Option (Bool) := if (l2.length : Int) > 1048576 then (some true) else ((laws_szBoard.f a0_0 a0_1 l0_2 1048576).bind fun t1108 => (if t1108 < 0 then (some true) else ((laws_toBoard.f k a0_0 a0_1 l0_2).bind fun bt1109 => ((laws_toLeaper.f a1_0 a1_1).bind fun bt1114 => ((laws_toIntS.f k l2).bind fun t1116 => ((spec_ColumnSumsOf.f k bt1109.1 bt1109.2.1 bt1109.2.2 bt1114.1 bt1114.2 t1116).bind fun bt1119 => ((laws_toBoard.f k a0_0 a0_1 l0_2).bind fun bt1123 => ((laws_toIntS.f k l2).bind fun t1129 => ((laws_toLeaper.f a1_0 a1_1).bind fun bt1132 => ((impl_ColumnSumsOf.f k bt1123.1 bt1123.2.1 bt1123.2.2 bt1132.1 bt1132.2 t1129).bind fun bt1134 => ((laws_eqIntS.f k bt1134.1 bt1119.1).bind fun t1138 => (if t1138 = true then (laws_FnExactColumnSumsOf.j0 k l2 bt1119.1 bt1119.2 t1129 bt1134.1 bt1134.2 (bt1134.2 != bt1119.2) a0_0 a0_1 l0_2 a1_0 a1_1 bt1123.1 bt1123.2.1 bt1123.2.2) else (laws_FnExactColumnSumsOf.j0 k l2 bt1119.1 bt1119.2 t1129 bt1134.1 bt1134.2 true a0_0 a0_1 l0_2 a1_0 a1_1 bt1123.1 bt1123.2.1 bt1123.2.2)))))))))))))
def laws_FnExactColumnSumsOf.T7 : Bool × List (List Nat × List Nat) := (true, [([], []), ([0], [0]), ([], []), ([2, 1], [2]), ([], []), ([4, 3], [4]), ([1, 3, 5, 5], [1, 3, 5]), ([6], [6]), ([7], [7]), ([7], [7]), ([8, 6, 0, 1, 2, 3, 4, 5, 6, 7, 8], [8]), ([9, 10, 0, 1, 2, 3, 4, 5, 6, 7, 8, 9, 10], [9])])
def laws_FnExactColumnSumsOf.B7 : List Nat := [0, 1, 0, 7, 0, 31, 63, 127, 255, 255, 511, 2047]
theorem laws_FnExactColumnSumsOf.tab7 : rtab .any (opsOf Try.f12 7) = laws_FnExactColumnSumsOf.T7 := by kernel_rfl
theorem laws_FnExactColumnSumsOf.bits7 : waitsOk laws_FnExactColumnSumsOf.T7.2 laws_FnExactColumnSumsOf.B7 = true := by kernel_rfl
def laws_FnExactColumnSumsOf.T10 : Bool × List (List Nat × List Nat) := (true, [([], []), ([], []), ([1], [1]), ([], []), ([0, 2, 3, 2], [0, 2, 3]), ([4], [4]), ([5], [5]), ([5], [5]), ([6, 4, 0, 1, 2, 3, 4, 5, 6], [6]), ([7, 8, 0, 1, 2, 3, 4, 5, 6, 7, 8], [7])])
def laws_FnExactColumnSumsOf.B10 : List Nat := [0, 0, 2, 0, 15, 31, 63, 63, 127, 511]
theorem laws_FnExactColumnSumsOf.tab10 : rtab .any (opsOf Try.f12 10) = laws_FnExactColumnSumsOf.T10 := by kernel_rfl
theorem laws_FnExactColumnSumsOf.bits10 : waitsOk laws_FnExactColumnSumsOf.T10.2 laws_FnExactColumnSumsOf.B10 = true := by kernel_rfl
def laws_FnExactColumnSumsOf.T30 : Bool × List (List Nat × List Nat) := (true, [([], []), ([0], [0]), ([], []), ([2, 1], [2]), ([], []), ([4, 3], [4]), ([1, 3, 5, 5], [1, 3, 5]), ([6], [6]), ([7], [7]), ([7], [7]), ([8, 6, 0, 1, 2, 3, 4, 5, 6, 7, 8], [8]), ([9, 10, 0, 1, 2, 3, 4, 5, 6, 7, 8, 9, 10], [9])])
def laws_FnExactColumnSumsOf.B30 : List Nat := [0, 1, 0, 7, 0, 31, 63, 127, 255, 255, 511, 2047]
theorem laws_FnExactColumnSumsOf.tab30 : rtab .any (opsOf Try.f12 30) = laws_FnExactColumnSumsOf.T30 := by kernel_rfl
theorem laws_FnExactColumnSumsOf.bits30 : waitsOk laws_FnExactColumnSumsOf.T30.2 laws_FnExactColumnSumsOf.B30 = true := by kernel_rfl
set_option maxHeartbeats 8000000 in
set_option maxRecDepth 100000 in
theorem laws_FnExactColumnSumsOf.calls (k : Nat) (a0_0 : Int) (a0_1 : Int) (A0_2 : Option Addr) (c0_2 : Nat) (l0_2 : List Int) (a1_0 : Int) (a1_1 : Int) (A2 : Option Addr) (c2 : Nat) (l2 : List Int) (r : Bool) (w : World) (hr0_2 : Kd.C (Kd.int .i64) w A0_2 l0_2.length l0_2) (hc0_2 : l0_2.length ≤ c0_2) (hr2 : Kd.C (Kd.int .i64) w A2 l2.length l2) (hc2 : l2.length ≤ c2) (h : laws_FnExactColumnSumsOf.f k a0_0 a0_1 l0_2 a1_0 a1_1 l2 = some r) :
  Calls Try.prog 12 #[.agg #[.int .i64 a0_0, .int .i64 a0_1, .slice A0_2 l0_2.length c0_2], .agg #[.int .i64 a1_0, .int .i64 a1_1], .slice A2 l2.length c2] w fun e w' => e = .returned (.bool r) ∧ Below w.heap.size w w' := by
 have hu24 := Try.underlying24
 have hu26 := Try.underlying26
 have hu30 := Try.underlying30
 have HR0_2 := Aside0.mk hr0_2
 have HC0_2 := Aside0.mk hc0_2
 clear hr0_2 hc0_2
 have HR2 := Aside0.mk hr2
 have HC2 := Aside0.mk hc2
 clear hr2 hc2
 have HB := Aside0.mk (Below.refl w.heap.size w)
 have H : (if (l2.length : Int) > 1048576 then (some true) else ((laws_szBoard.f a0_0 a0_1 l0_2 1048576).bind fun t1108 => (if t1108 < 0 then (some true) else ((laws_toBoard.f k a0_0 a0_1 l0_2).bind fun bt1109 => ((laws_toLeaper.f a1_0 a1_1).bind fun bt1114 => ((laws_toIntS.f k l2).bind fun t1116 => ((spec_ColumnSumsOf.f k bt1109.1 bt1109.2.1 bt1109.2.2 bt1114.1 bt1114.2 t1116).bind fun bt1119 => ((laws_toBoard.f k a0_0 a0_1 l0_2).bind fun bt1123 => ((laws_toIntS.f k l2).bind fun t1129 => ((laws_toLeaper.f a1_0 a1_1).bind fun bt1132 => ((impl_ColumnSumsOf.f k bt1123.1 bt1123.2.1 bt1123.2.2 bt1132.1 bt1132.2 t1129).bind fun bt1134 => ((laws_eqIntS.f k bt1134.1 bt1119.1).bind fun t1138 => (if t1138 = true then (laws_FnExactColumnSumsOf.j0 k l2 bt1119.1 bt1119.2 t1129 bt1134.1 bt1134.2 (bt1134.2 != bt1119.2) a0_0 a0_1 l0_2 a1_0 a1_1 bt1123.1 bt1123.2.1 bt1123.2.2) else (laws_FnExactColumnSumsOf.j0 k l2 bt1119.1 bt1119.2 t1129 bt1134.1 bt1134.2 true a0_0 a0_1 l0_2 a1_0 a1_1 bt1123.1 bt1123.2.1 bt1123.2.2)))))))))))))) = some r := h
 clear h
 by_cases c4 : (l2.length : Int) > 1048576
 ·rw [if_pos c4] at H
  have c4b0 : decide (1048576 < (l2.length : Int)) = true := decide_eq_true c4
  have c4b1 : decide (1048576 < l2.length) = true := decide_eq_true (by omega)
  clear c4
  obtain rfl := Option.some.inj H
  go_enter Try.func12, Try.ntmps12
  go_wp2_with (first | ((with_reducible refine gate_dst (N := 3) rfl ?_); refine box_event ?hg (N := 3) ?hd (cs := #[.int .i64 a0_0, .int .i64 a0_1, .slice A0_2 l0_2.length c0_2]) (t := 24) ?hr ?_; (case hd => rfl); (case hg => rfl); (case hr => first | (go_simp; done) | (go_simp; rfl)); intro gb1106 hg w5 hbox hb; have n0_ := Aside0.mk (below_step zar15 hb); have n1_ := Aside0.mk (hbox); have n2_ := Aside0.mk ((zar54 : w.heap.size ≤ gb1106)); have n3_ := Aside0.mk ((zar54 : w.heap.size ≤ gb1106)); clear HB; have HB := n0_; have BK1106 := n1_; have GW1106 := n2_; have GE1106 := n3_; clear n0_ n1_ n2_ n3_; clear hb hbox hg) | ((with_reducible refine gate_dst (N := 4) rfl ?_); refine box_event ?hg (N := 4) ?hd (cs := #[.int .i64 a1_0, .int .i64 a1_1]) (t := 26) ?hr ?_; (case hd => rfl); (case hg => rfl); (case hr => first | (go_simp; done) | (go_simp; rfl)); intro gb1107 hg w6 hbox hb; have n0_ := Aside0.mk (blk_below (g := gb1106) (o := .cells #[.int .i64 a0_0, .int .i64 a0_1, .slice A0_2 l0_2.length c0_2] 24 (0, 0)) zar2 hb); have n1_ := Aside0.mk (below_step zar11 hb); have n2_ := Aside0.mk (hbox); have n3_ := Aside0.mk ((zar55 : w.heap.size ≤ gb1107)); have n4_ := Aside0.mk ((zar55 : w.heap.size ≤ gb1107)); have n5_ := Aside0.mk ((zar52 : gb1106 ≠ gb1107)); have n6_ := Aside0.mk ((zar53 : gb1107 ≠ gb1106)); clear BK1106; clear HB; have BK1106 := n0_; have HB := n1_; have BK1107 := n2_; have GW1107 := n3_; have GE1107 := n4_; have NB1106_1107 := n5_; have NB1107_1106 := n6_; clear n0_ n1_ n2_ n3_ n4_ n5_ n6_; clear hb hbox hg))
  go_ret
  exact ⟨zar17, zar6⟩
 rw [if_neg c4] at H
 have c4b0 : decide (1048576 < (l2.length : Int)) = false := decide_eq_false c4
 have c4b1 : decide (1048576 < l2.length) = false := decide_eq_false (by omega)
 clear c4
 replace H := Option.bind_eq_some_iff.mp H
 obtain ⟨t1108, A70, H⟩ := H
 replace H : (if t1108 < 0 then (some true) else ((laws_toBoard.f k a0_0 a0_1 l0_2).bind fun bt1109 => ((laws_toLeaper.f a1_0 a1_1).bind fun bt1114 => ((laws_toIntS.f k l2).bind fun t1116 => ((spec_ColumnSumsOf.f k bt1109.1 bt1109.2.1 bt1109.2.2 bt1114.1 bt1114.2 t1116).bind fun bt1119 => ((laws_toBoard.f k a0_0 a0_1 l0_2).bind fun bt1123 => ((laws_toIntS.f k l2).bind fun t1129 => ((laws_toLeaper.f a1_0 a1_1).bind fun bt1132 => ((impl_ColumnSumsOf.f k bt1123.1 bt1123.2.1 bt1123.2.2 bt1132.1 bt1132.2 t1129).bind fun bt1134 => ((laws_eqIntS.f k bt1134.1 bt1119.1).bind fun t1138 => (if t1138 = true then (laws_FnExactColumnSumsOf.j0 k l2 bt1119.1 bt1119.2 t1129 bt1134.1 bt1134.2 (bt1134.2 != bt1119.2) a0_0 a0_1 l0_2 a1_0 a1_1 bt1123.1 bt1123.2.1 bt1123.2.2) else (laws_FnExactColumnSumsOf.j0 k l2 bt1119.1 bt1119.2 t1129 bt1134.1 bt1134.2 true a0_0 a0_1 l0_2 a1_0 a1_1 bt1123.1 bt1123.2.1 bt1123.2.2)))))))))))) = some r := H
 have A7 := Aside0.mk A70
 clear A70
 by_cases c8 : t1108 < 0
 ·rw [if_pos c8] at H
  have c8b0 : decide (t1108 < 0) = true := decide_eq_true c8
  clear c8
  obtain rfl := Option.some.inj H
  go_enter Try.func12, Try.ntmps12
  go_wp2_with (first | ((with_reducible refine gate_dst (N := 3) rfl ?_); refine box_event ?hg (N := 3) ?hd (cs := #[.int .i64 a0_0, .int .i64 a0_1, .slice A0_2 l0_2.length c0_2]) (t := 24) ?hr ?_; (case hd => rfl); (case hg => rfl); (case hr => first | (go_simp; done) | (go_simp; rfl)); intro gb1106 hg w9 hbox hb; have n0_ := Aside0.mk (below_step zar15 hb); have n1_ := Aside0.mk (hbox); have n2_ := Aside0.mk ((zar54 : w.heap.size ≤ gb1106)); have n3_ := Aside0.mk ((zar54 : w.heap.size ≤ gb1106)); clear HB; have HB := n0_; have BK1106 := n1_; have GW1106 := n2_; have GE1106 := n3_; clear n0_ n1_ n2_ n3_; clear hb hbox hg) | ((with_reducible refine gate_dst (N := 4) rfl ?_); refine box_event ?hg (N := 4) ?hd (cs := #[.int .i64 a1_0, .int .i64 a1_1]) (t := 26) ?hr ?_; (case hd => rfl); (case hg => rfl); (case hr => first | (go_simp; done) | (go_simp; rfl)); intro gb1107 hg w10 hbox hb; have n0_ := Aside0.mk (blk_below (g := gb1106) (o := .cells #[.int .i64 a0_0, .int .i64 a0_1, .slice A0_2 l0_2.length c0_2] 24 (0, 0)) zar2 hb); have n1_ := Aside0.mk (below_step zar11 hb); have n2_ := Aside0.mk (hbox); have n3_ := Aside0.mk ((zar55 : w.heap.size ≤ gb1107)); have n4_ := Aside0.mk ((zar55 : w.heap.size ≤ gb1107)); have n5_ := Aside0.mk ((zar52 : gb1106 ≠ gb1107)); have n6_ := Aside0.mk ((zar53 : gb1107 ≠ gb1106)); clear BK1106; clear HB; have BK1106 := n0_; have HB := n1_; have BK1107 := n2_; have GW1107 := n3_; have GE1107 := n4_; have NB1106_1107 := n5_; have NB1107_1106 := n6_; clear n0_ n1_ n2_ n3_ n4_ n5_ n6_; clear hb hbox hg; have hnb11 := NB1106_1107.out; have hnc11 := NB1107_1106.out; have hcz12_0 : w10.cell? ⟨gb1106, 0, none⟩ = some (.int .i64 a0_0) := (blk_cell BK1106.out 0).trans rfl; have hcz12_1 : w10.cell? ⟨gb1106, 1, none⟩ = some (.int .i64 a0_1) := (blk_cell BK1106.out 1).trans rfl; have hcz12_2 : w10.cell? ⟨gb1106, 2, none⟩ = some (.slice A0_2 l0_2.length c0_2) := (blk_cell BK1106.out 2).trans rfl; have hfz12_0 := blk_frozen BK1106.out 0; have hfz12_1 := blk_frozen BK1106.out 1; have hfz12_2 := blk_frozen BK1106.out 2) | ((with_reducible refine gate_callee (f := 15) rfl ?_); refine goesL_ (some 24) rfl rfl Try.func15 (by kernel_rfl) rfl #[.agg #[.int .i64 a0_0, .int .i64 a0_1, .slice A0_2 l0_2.length c0_2], .int .i64 1048576] rfl zar3 ?_; (with_reducible refine (laws_szBoard.calls a0_0 a0_1 _ _ l0_2 1048576 t1108 _ ?side1 ?side2 A7.out).mono ?_); (case side1 => exact zar13); (case side2 => exact HC0_2.out); rintro e w13 ⟨rfl, hb⟩; refine ⟨_, rfl, ?_⟩; have n0_ := Aside0.mk (blk_below (g := gb1106) (o := .cells #[.int .i64 a0_0, .int .i64 a0_1, .slice A0_2 l0_2.length c0_2] 24 (0, 0)) zar2 hb); have n1_ := Aside0.mk (blk_below (g := gb1107) (o := .cells #[.int .i64 a1_0, .int .i64 a1_1] 26 (0, 0)) zar4 hb); have n2_ := Aside0.mk (below_step zar6 hb); clear BK1106; clear BK1107; clear HB; have BK1106 := n0_; have BK1107 := n1_; have HB := n2_; clear n0_ n1_ n2_; (try clear hb); (try clear hb2); (try clear hk); (try clear hi); (try clear hna_); (try clear hnb_)))
  go_ret
  exact ⟨zar17, zar6⟩
 rw [if_neg c8] at H
 have c8b0 : decide (t1108 < 0) = false := decide_eq_false c8
 clear c8
 replace H := Option.bind_eq_some_iff.mp H
 obtain ⟨⟨t1109, t1110, t1111⟩, A140, H⟩ := H
 replace H : ((laws_toLeaper.f a1_0 a1_1).bind fun bt1114 => ((laws_toIntS.f k l2).bind fun t1116 => ((spec_ColumnSumsOf.f k t1109 t1110 t1111 bt1114.1 bt1114.2 t1116).bind fun bt1119 => ((laws_toBoard.f k a0_0 a0_1 l0_2).bind fun bt1123 => ((laws_toIntS.f k l2).bind fun t1129 => ((laws_toLeaper.f a1_0 a1_1).bind fun bt1132 => ((impl_ColumnSumsOf.f k bt1123.1 bt1123.2.1 bt1123.2.2 bt1132.1 bt1132.2 t1129).bind fun bt1134 => ((laws_eqIntS.f k bt1134.1 bt1119.1).bind fun t1138 => (if t1138 = true then (laws_FnExactColumnSumsOf.j0 k l2 bt1119.1 bt1119.2 t1129 bt1134.1 bt1134.2 (bt1134.2 != bt1119.2) a0_0 a0_1 l0_2 a1_0 a1_1 bt1123.1 bt1123.2.1 bt1123.2.2) else (laws_FnExactColumnSumsOf.j0 k l2 bt1119.1 bt1119.2 t1129 bt1134.1 bt1134.2 true a0_0 a0_1 l0_2 a1_0 a1_1 bt1123.1 bt1123.2.1 bt1123.2.2)))))))))) = some r := H
 have A14 := Aside0.mk A140
 clear A140
 replace H := Option.bind_eq_some_iff.mp H
 obtain ⟨⟨t1114, t1115⟩, A150, H⟩ := H
 replace H : ((laws_toIntS.f k l2).bind fun t1116 => ((spec_ColumnSumsOf.f k t1109 t1110 t1111 t1114 t1115 t1116).bind fun bt1119 => ((laws_toBoard.f k a0_0 a0_1 l0_2).bind fun bt1123 => ((laws_toIntS.f k l2).bind fun t1129 => ((laws_toLeaper.f a1_0 a1_1).bind fun bt1132 => ((impl_ColumnSumsOf.f k bt1123.1 bt1123.2.1 bt1123.2.2 bt1132.1 bt1132.2 t1129).bind fun bt1134 => ((laws_eqIntS.f k bt1134.1 bt1119.1).bind fun t1138 => (if t1138 = true then (laws_FnExactColumnSumsOf.j0 k l2 bt1119.1 bt1119.2 t1129 bt1134.1 bt1134.2 (bt1134.2 != bt1119.2) a0_0 a0_1 l0_2 a1_0 a1_1 bt1123.1 bt1123.2.1 bt1123.2.2) else (laws_FnExactColumnSumsOf.j0 k l2 bt1119.1 bt1119.2 t1129 bt1134.1 bt1134.2 true a0_0 a0_1 l0_2 a1_0 a1_1 bt1123.1 bt1123.2.1 bt1123.2.2))))))))) = some r := H
 have A15 := Aside0.mk A150
 clear A150
 replace H := Option.bind_eq_some_iff.mp H
 obtain ⟨t1116, A160, H⟩ := H
 replace H : ((spec_ColumnSumsOf.f k t1109 t1110 t1111 t1114 t1115 t1116).bind fun bt1119 => ((laws_toBoard.f k a0_0 a0_1 l0_2).bind fun bt1123 => ((laws_toIntS.f k l2).bind fun t1129 => ((laws_toLeaper.f a1_0 a1_1).bind fun bt1132 => ((impl_ColumnSumsOf.f k bt1123.1 bt1123.2.1 bt1123.2.2 bt1132.1 bt1132.2 t1129).bind fun bt1134 => ((laws_eqIntS.f k bt1134.1 bt1119.1).bind fun t1138 => (if t1138 = true then (laws_FnExactColumnSumsOf.j0 k l2 bt1119.1 bt1119.2 t1129 bt1134.1 bt1134.2 (bt1134.2 != bt1119.2) a0_0 a0_1 l0_2 a1_0 a1_1 bt1123.1 bt1123.2.1 bt1123.2.2) else (laws_FnExactColumnSumsOf.j0 k l2 bt1119.1 bt1119.2 t1129 bt1134.1 bt1134.2 true a0_0 a0_1 l0_2 a1_0 a1_1 bt1123.1 bt1123.2.1 bt1123.2.2)))))))) = some r := H
 have A16 := Aside0.mk A160
 clear A160
 replace H := Option.bind_eq_some_iff.mp H
 obtain ⟨⟨t1119, t1122⟩, A170, H⟩ := H
 replace H : ((laws_toBoard.f k a0_0 a0_1 l0_2).bind fun bt1123 => ((laws_toIntS.f k l2).bind fun t1129 => ((laws_toLeaper.f a1_0 a1_1).bind fun bt1132 => ((impl_ColumnSumsOf.f k bt1123.1 bt1123.2.1 bt1123.2.2 bt1132.1 bt1132.2 t1129).bind fun bt1134 => ((laws_eqIntS.f k bt1134.1 t1119).bind fun t1138 => (if t1138 = true then (laws_FnExactColumnSumsOf.j0 k l2 t1119 t1122 t1129 bt1134.1 bt1134.2 (bt1134.2 != t1122) a0_0 a0_1 l0_2 a1_0 a1_1 bt1123.1 bt1123.2.1 bt1123.2.2) else (laws_FnExactColumnSumsOf.j0 k l2 t1119 t1122 t1129 bt1134.1 bt1134.2 true a0_0 a0_1 l0_2 a1_0 a1_1 bt1123.1 bt1123.2.1 bt1123.2.2))))))) = some r := H
 have A17 := Aside0.mk A170
 clear A170
 replace H := Option.bind_eq_some_iff.mp H
 obtain ⟨⟨t1123, t1124, t1125⟩, A180, H⟩ := H
 replace H : ((laws_toIntS.f k l2).bind fun t1129 => ((laws_toLeaper.f a1_0 a1_1).bind fun bt1132 => ((impl_ColumnSumsOf.f k t1123 t1124 t1125 bt1132.1 bt1132.2 t1129).bind fun bt1134 => ((laws_eqIntS.f k bt1134.1 t1119).bind fun t1138 => (if t1138 = true then (laws_FnExactColumnSumsOf.j0 k l2 t1119 t1122 t1129 bt1134.1 bt1134.2 (bt1134.2 != t1122) a0_0 a0_1 l0_2 a1_0 a1_1 t1123 t1124 t1125) else (laws_FnExactColumnSumsOf.j0 k l2 t1119 t1122 t1129 bt1134.1 bt1134.2 true a0_0 a0_1 l0_2 a1_0 a1_1 t1123 t1124 t1125)))))) = some r := H
 have A18 := Aside0.mk A180
 clear A180
 replace H := Option.bind_eq_some_iff.mp H
 obtain ⟨t1129, A190, H⟩ := H
 replace H : ((laws_toLeaper.f a1_0 a1_1).bind fun bt1132 => ((impl_ColumnSumsOf.f k t1123 t1124 t1125 bt1132.1 bt1132.2 t1129).bind fun bt1134 => ((laws_eqIntS.f k bt1134.1 t1119).bind fun t1138 => (if t1138 = true then (laws_FnExactColumnSumsOf.j0 k l2 t1119 t1122 t1129 bt1134.1 bt1134.2 (bt1134.2 != t1122) a0_0 a0_1 l0_2 a1_0 a1_1 t1123 t1124 t1125) else (laws_FnExactColumnSumsOf.j0 k l2 t1119 t1122 t1129 bt1134.1 bt1134.2 true a0_0 a0_1 l0_2 a1_0 a1_1 t1123 t1124 t1125))))) = some r := H
 have A19 := Aside0.mk A190
 clear A190
 replace H := Option.bind_eq_some_iff.mp H
 obtain ⟨⟨t1132, t1133⟩, A200, H⟩ := H
 replace H : ((impl_ColumnSumsOf.f k t1123 t1124 t1125 t1132 t1133 t1129).bind fun bt1134 => ((laws_eqIntS.f k bt1134.1 t1119).bind fun t1138 => (if t1138 = true then (laws_FnExactColumnSumsOf.j0 k l2 t1119 t1122 t1129 bt1134.1 bt1134.2 (bt1134.2 != t1122) a0_0 a0_1 l0_2 a1_0 a1_1 t1123 t1124 t1125) else (laws_FnExactColumnSumsOf.j0 k l2 t1119 t1122 t1129 bt1134.1 bt1134.2 true a0_0 a0_1 l0_2 a1_0 a1_1 t1123 t1124 t1125)))) = some r := H
 have A20 := Aside0.mk A200
 clear A200
 replace H := Option.bind_eq_some_iff.mp H
 obtain ⟨⟨t1134, t1137⟩, A210, H⟩ := H
 replace H : ((laws_eqIntS.f k t1134 t1119).bind fun t1138 => (if t1138 = true then (laws_FnExactColumnSumsOf.j0 k l2 t1119 t1122 t1129 t1134 t1137 (t1137 != t1122) a0_0 a0_1 l0_2 a1_0 a1_1 t1123 t1124 t1125) else (laws_FnExactColumnSumsOf.j0 k l2 t1119 t1122 t1129 t1134 t1137 true a0_0 a0_1 l0_2 a1_0 a1_1 t1123 t1124 t1125))) = some r := H
 have A21 := Aside0.mk A210
 clear A210
 have HC22 := Aside0.mk H
 clear H
 go_enter Try.func12, Try.ntmps12
 try go_wp2_with (first | ((with_reducible refine gate_dst (N := 3) rfl ?_); refine box_event ?hg (N := 3) ?hd (cs := #[.int .i64 a0_0, .int .i64 a0_1, .slice A0_2 l0_2.length c0_2]) (t := 24) ?hr ?_; (case hd => rfl); (case hg => rfl); (case hr => first | (go_simp; done) | (go_simp; rfl)); intro gb1106 hg w23 hbox hb; have n0_ := Aside0.mk (below_step zar15 hb); have n1_ := Aside0.mk (hbox); have n2_ := Aside0.mk ((zar54 : w.heap.size ≤ gb1106)); have n3_ := Aside0.mk ((zar54 : w.heap.size ≤ gb1106)); clear HB; have HB := n0_; have BK1106 := n1_; have GW1106 := n2_; have GE1106 := n3_; clear n0_ n1_ n2_ n3_; clear hb hbox hg) | ((with_reducible refine gate_dst (N := 4) rfl ?_); refine box_event ?hg (N := 4) ?hd (cs := #[.int .i64 a1_0, .int .i64 a1_1]) (t := 26) ?hr ?_; (case hd => rfl); (case hg => rfl); (case hr => first | (go_simp; done) | (go_simp; rfl)); intro gb1107 hg w24 hbox hb; have n0_ := Aside0.mk (blk_below (g := gb1106) (o := .cells #[.int .i64 a0_0, .int .i64 a0_1, .slice A0_2 l0_2.length c0_2] 24 (0, 0)) zar2 hb); have n1_ := Aside0.mk (below_step zar11 hb); have n2_ := Aside0.mk (hbox); have n3_ := Aside0.mk ((zar55 : w.heap.size ≤ gb1107)); have n4_ := Aside0.mk ((zar55 : w.heap.size ≤ gb1107)); have n5_ := Aside0.mk ((zar52 : gb1106 ≠ gb1107)); have n6_ := Aside0.mk ((zar53 : gb1107 ≠ gb1106)); clear BK1106; clear HB; have BK1106 := n0_; have HB := n1_; have BK1107 := n2_; have GW1107 := n3_; have GE1107 := n4_; have NB1106_1107 := n5_; have NB1107_1106 := n6_; clear n0_ n1_ n2_ n3_ n4_ n5_ n6_; clear hb hbox hg; have hnb25 := NB1106_1107.out; have hnc25 := NB1107_1106.out; have hcz26_0 : w24.cell? ⟨gb1106, 0, none⟩ = some (.int .i64 a0_0) := (blk_cell BK1106.out 0).trans rfl; have hcz26_1 : w24.cell? ⟨gb1106, 1, none⟩ = some (.int .i64 a0_1) := (blk_cell BK1106.out 1).trans rfl; have hcz26_2 : w24.cell? ⟨gb1106, 2, none⟩ = some (.slice A0_2 l0_2.length c0_2) := (blk_cell BK1106.out 2).trans rfl; have hfz26_0 := blk_frozen BK1106.out 0; have hfz26_1 := blk_frozen BK1106.out 1; have hfz26_2 := blk_frozen BK1106.out 2) | ((with_reducible refine gate_callee (f := 15) rfl ?_); refine goesL_ (some 24) rfl rfl Try.func15 (by kernel_rfl) rfl #[.agg #[.int .i64 a0_0, .int .i64 a0_1, .slice A0_2 l0_2.length c0_2], .int .i64 1048576] rfl zar3 ?_; (with_reducible refine (laws_szBoard.calls a0_0 a0_1 _ _ l0_2 1048576 t1108 _ ?side1 ?side2 A7.out).mono ?_); (case side1 => exact zar13); (case side2 => exact HC0_2.out); rintro e w27 ⟨rfl, hb⟩; refine ⟨_, rfl, ?_⟩; have n0_ := Aside0.mk (blk_below (g := gb1106) (o := .cells #[.int .i64 a0_0, .int .i64 a0_1, .slice A0_2 l0_2.length c0_2] 24 (0, 0)) zar2 hb); have n1_ := Aside0.mk (blk_below (g := gb1107) (o := .cells #[.int .i64 a1_0, .int .i64 a1_1] 26 (0, 0)) zar4 hb); have n2_ := Aside0.mk (below_step zar6 hb); clear BK1106; clear BK1107; clear HB; have BK1106 := n0_; have BK1107 := n1_; have HB := n2_; clear n0_ n1_ n2_; (try clear hb); (try clear hb2); (try clear hk); (try clear hi); (try clear hna_); (try clear hnb_)))
 have n0_ := Aside0.mk (blk_drew BK1106.out)
 have n1_ := Aside0.mk (blk_drew BK1107.out)
 have n2_ := Aside0.mk (below_drew1 HB.out)
 clear BK1106
 clear BK1107
 clear HB
 have BK1106 := n0_
 have BK1107 := n1_
 have HB := n2_
 clear n0_ n1_ n2_
 refine start_ (n := 12) (S := fun w' => w'.cell? ⟨gb1106, 0, none⟩ = some (.int .i64 a0_0) ∧ w'.cell? ⟨gb1106, 1, none⟩ = some (.int .i64 a0_1) ∧ w'.cell? ⟨gb1106, 2, none⟩ = some (.slice A0_2 l0_2.length c0_2) ∧ w'.cell? ⟨gb1107, 0, none⟩ = some (.int .i64 a1_0) ∧ w'.cell? ⟨gb1107, 1, none⟩ = some (.int .i64 a1_1)) (ds := []) #[false, false, false, false, false, false, false, false, false, false, false, false] (by kernel_rfl) rfl rfl ⟨(blk_cell BK1106.out 0).trans rfl, (blk_cell BK1106.out 1).trans rfl, (blk_cell BK1106.out 2).trans rfl, (blk_cell BK1107.out 0).trans rfl, (blk_cell BK1107.out 1).trans rfl⟩ (fun hHeld => ?_); refine with_tabW laws_FnExactColumnSumsOf.tab7 laws_FnExactColumnSumsOf.bits7 (fun HT_ HW_ => ?_)
 generalize w27.drew = w28 at BK1106 BK1107 HB hHeld ⊢
 refine pure_ (i := 4) (N := some 32) (v := ?_) (a' := ?_) #[false, false, false, false, true, false, false, false, false, false, false, false] rfl rfl (any_of HT_.out (by kernel_rfl)) (fun _ _ _ h => h) (Or.inl ⟨by rfl, ?_⟩) ?_ ?_
 rotate_left
 ·intro w'
  go_simp
  with_reducible rfl
 rotate_left
 ·simp only [Act.put, List.setIfInBounds_toArray, List.set_cons_zero, List.set_cons_succ, i64_w, i32_w]
  rfl
 refine take_ (i := 0) (N := some 28) (v := ?_) (a' := ?_) #[true, false, false, false, true, false, false, false, false, false, false, false] rfl rfl (take_ofW HT_.out HW_.out (by kernel_rfl)) (fun _ _ _ h => h) (Or.inl ⟨by rfl, ?_⟩) hHeld ?_ ?_
 rotate_left
 ·rintro w' ⟨s0, s1, s2, s3, s4⟩
  go_simp
  with_reducible rfl
 rotate_left
 ·simp only [Act.put, List.setIfInBounds_toArray, List.set_cons_zero, List.set_cons_succ, i64_w, i32_w]
  rfl
 refine take_ (i := 2) (N := some 30) (v := ?_) (a' := ?_) #[true, false, true, false, true, false, false, false, false, false, false, false] rfl rfl (take_ofW HT_.out HW_.out (by kernel_rfl)) (fun _ _ _ h => h) (Or.inl ⟨by rfl, ?_⟩) hHeld ?_ ?_
 rotate_left
 ·rintro w' ⟨s0, s1, s2, s3, s4⟩
  go_simp
  with_reducible rfl
 rotate_left
 ·simp only [Act.put, List.setIfInBounds_toArray, List.set_cons_zero, List.set_cons_succ, i64_w, i32_w]
  rfl
 refine one_ (i := 1) (N := some 29) #[true, true, true, false, true, false, false, false, false, false, false, false] rfl rfl (one_of HT_.out (by kernel_rfl)) (by decide) (fun K hK => ?_)
 refine goes_ Try.func17 (by kernel_rfl) rfl #[.agg #[.int .i64 a0_0, .int .i64 a0_1, .slice A0_2 l0_2.length c0_2]] (by rfl) rfl rfl zar3 ?_
 with_reducible refine (laws_toBoard.calls k a0_0 a0_1 _ _ l0_2 t1109 t1110 t1111 _ ?side1 ?side2 A14.out).mono ?_
 (case side1 => exact zar13)
 (case side2 => exact HC0_2.out)
 rintro e w29 ⟨v1112, rfl, ho0, hb⟩
 refine ⟨_, rfl, ?_⟩
 have n0_ := Aside0.mk (Kd.R_lower ho0 (below_size zar6))
 have n1_ := Aside0.mk (blk_below (g := gb1106) (o := .cells #[.int .i64 a0_0, .int .i64 a0_1, .slice A0_2 l0_2.length c0_2] 24 (0, 0)) zar2 hb)
 have n2_ := Aside0.mk (blk_below (g := gb1107) (o := .cells #[.int .i64 a1_0, .int .i64 a1_1] 26 (0, 0)) zar4 hb)
 have n3_ := Aside0.mk (below_step zar6 hb)
 clear BK1106
 clear BK1107
 clear HB
 have HO1113 := n0_
 have BK1106 := n1_
 have BK1107 := n2_
 have HB := n3_
 clear n0_ n1_ n2_ n3_
 (try clear hb)
 (try clear hb2)
 (try clear hk)
 (try clear hi)
 (try clear ho0)
 (try clear hna_)
 (try clear hnb_)
 refine hK.out _ _ ⟨(blk_cell BK1106.out 0).trans rfl, (blk_cell BK1106.out 1).trans rfl, (blk_cell BK1106.out 2).trans rfl, (blk_cell BK1107.out 0).trans rfl, (blk_cell BK1107.out 1).trans rfl⟩ (fun hHeld => ?_)
 clear hK K
 refine norm_ (a' := ?_) ?_ ?_
 rotate_left
 ·show Act.put _ (some 29) _ = _
  simp only [Act.put, List.setIfInBounds_toArray, List.set_cons_zero, List.set_cons_succ, i64_w, i32_w]
  rfl
 refine one_ (i := 3) (N := some 31) #[true, true, true, true, true, false, false, false, false, false, false, false] rfl rfl (one_of HT_.out (by kernel_rfl)) (by decide) (fun K hK => ?_)
 refine goes_ Try.func18 (by kernel_rfl) rfl #[.agg #[.int .i64 a1_0, .int .i64 a1_1]] (by rfl) rfl rfl zar3 ?_
 with_reducible refine (laws_toLeaper.calls a1_0 a1_1 t1114 t1115 _ A15.out).mono ?_
 rintro e w30 ⟨rfl, hb⟩
 refine ⟨_, rfl, ?_⟩
 have n0_ := Aside0.mk (Kd.R_below zar16 hb)
 have n1_ := Aside0.mk (blk_below (g := gb1106) (o := .cells #[.int .i64 a0_0, .int .i64 a0_1, .slice A0_2 l0_2.length c0_2] 24 (0, 0)) zar2 hb)
 have n2_ := Aside0.mk (blk_below (g := gb1107) (o := .cells #[.int .i64 a1_0, .int .i64 a1_1] 26 (0, 0)) zar4 hb)
 have n3_ := Aside0.mk (below_step zar6 hb)
 clear HO1113
 clear BK1106
 clear BK1107
 clear HB
 have HO1113 := n0_
 have BK1106 := n1_
 have BK1107 := n2_
 have HB := n3_
 clear n0_ n1_ n2_ n3_
 (try clear hb)
 (try clear hb2)
 (try clear hk)
 (try clear hi)
 (try clear hna_)
 (try clear hnb_)
 refine hK.out _ _ ⟨(blk_cell BK1106.out 0).trans rfl, (blk_cell BK1106.out 1).trans rfl, (blk_cell BK1106.out 2).trans rfl, (blk_cell BK1107.out 0).trans rfl, (blk_cell BK1107.out 1).trans rfl⟩ (fun hHeld => ?_)
 clear hK K
 refine norm_ (a' := ?_) ?_ ?_
 rotate_left
 ·show Act.put _ (some 31) _ = _
  simp only [Act.put, List.setIfInBounds_toArray, List.set_cons_zero, List.set_cons_succ, i64_w, i32_w]
  rfl
 refine one_ (i := 5) (N := some 33) #[true, true, true, true, true, true, false, false, false, false, false, false] rfl rfl (one_of HT_.out (by kernel_rfl)) (by decide) (fun K hK => ?_)
 refine goes_ Try.func19 (by kernel_rfl) rfl #[.slice A2 l2.length c2] (by rfl) rfl rfl zar3 ?_
 with_reducible refine (laws_toIntS.calls k _ _ l2 t1116 _ ?side1 ?side2 A16.out).mono ?_
 (case side1 => exact zar21)
 (case side2 => exact HC2.out)
 rintro e w31 ⟨v1117, rfl, ho0, hb⟩
 refine ⟨_, rfl, ?_⟩
 have n0_ := Aside0.mk (Kd.R_elder' zar16 (Kd.R_base ho0) hb)
 have n1_ := Aside0.mk (Kd.R_lower (Kd.R_new' ho0 (Kd.R_lt zar16)) (below_size zar6))
 have n2_ := Aside0.mk (blk_below (g := gb1106) (o := .cells #[.int .i64 a0_0, .int .i64 a0_1, .slice A0_2 l0_2.length c0_2] 24 (0, 0)) zar2 hb)
 have n3_ := Aside0.mk (blk_below (g := gb1107) (o := .cells #[.int .i64 a1_0, .int .i64 a1_1] 26 (0, 0)) zar4 hb)
 have n4_ := Aside0.mk (below_step zar6 hb)
 clear HO1113
 clear BK1106
 clear BK1107
 clear HB
 have HO1113 := n0_
 have HO1118 := n1_
 have BK1106 := n2_
 have BK1107 := n3_
 have HB := n4_
 clear n0_ n1_ n2_ n3_ n4_
 (try clear hb)
 (try clear hb2)
 (try clear hk)
 (try clear hi)
 (try clear ho0)
 (try clear hna_)
 (try clear hnb_)
 obtain ⟨Ao32, co32, eo32⟩ := Kd.R_slice HO1113.out
 (first | subst eo32 | (injection eo32 with f1_ f2_ f3_; have f4_ := f1_.symm; have f5_ := f3_.symm; clear f1_ f2_ f3_; subst f4_; subst f5_))
 obtain ⟨Ao33, co33, eo33⟩ := Kd.R_slice HO1118.out
 (first | subst eo33 | (injection eo33 with f1_ f2_ f3_; have f4_ := f1_.symm; have f5_ := f3_.symm; clear f1_ f2_ f3_; subst f4_; subst f5_))
 refine hK.out _ _ ⟨(blk_cell BK1106.out 0).trans rfl, (blk_cell BK1106.out 1).trans rfl, (blk_cell BK1106.out 2).trans rfl, (blk_cell BK1107.out 0).trans rfl, (blk_cell BK1107.out 1).trans rfl⟩ (fun hHeld => ?_)
 clear hK K
 refine norm_ (a' := ?_) ?_ ?_
 rotate_left
 ·show Act.put _ (some 33) _ = _
  simp only [Act.put, List.setIfInBounds_toArray, List.set_cons_zero, List.set_cons_succ, i64_w, i32_w]
  rfl
 refine one_ (i := 6) (N := some 34) #[true, true, true, true, true, true, true, false, false, false, false, false] rfl rfl (one_of HT_.out (by kernel_rfl)) (by decide) (fun K hK => ?_)
 refine goes_ Try.func42 (by kernel_rfl) rfl #[.agg #[.int .i64 t1109, .int .i64 t1110, .slice Ao32 t1111.length co32], .agg #[.int .i64 t1114, .int .i64 t1115], .slice Ao33 t1116.length co33] (by rfl) rfl rfl zar3 ?_
 with_reducible refine (spec_ColumnSumsOf.calls k t1109 t1110 _ _ t1111 t1114 t1115 _ _ t1116 t1119 t1122 _ ?side1 ?side2 ?side3 ?side4 A17.out).mono ?_
 (case side1 => repeat (first | exact (Kd.R_reads' HO1113.out).2.2 | (with_reducible refine Kd.C_alloc ?_ _) | (with_reducible refine Kd.C_drewN ?_ _) | (with_reducible refine Kd.C_drew ?_)))
 (case side2 => exact (Kd.R_reads' HO1113.out).2.1)
 (case side3 => repeat (first | exact (Kd.R_reads' HO1118.out).2.2 | (with_reducible refine Kd.C_alloc ?_ _) | (with_reducible refine Kd.C_drewN ?_ _) | (with_reducible refine Kd.C_drew ?_)))
 (case side4 => exact (Kd.R_reads' HO1118.out).2.1)
 rintro e w34 ⟨v1120, rfl, ho0, hb⟩
 refine ⟨_, rfl, ?_⟩
 have n0_ := Aside0.mk (Kd.R_elder' zar16 (Kd.R_base ho0) hb)
 have n1_ := Aside0.mk (Kd.R_elder' zar18 (Kd.R_base ho0) hb)
 have n2_ := Aside0.mk (Kd.R_lower (Kd.R_new' (Kd.R_new' ho0 (Kd.R_lt zar16)) (Kd.R_lt zar18)) (below_size zar6))
 have n3_ := Aside0.mk (blk_below (g := gb1106) (o := .cells #[.int .i64 a0_0, .int .i64 a0_1, .slice A0_2 l0_2.length c0_2] 24 (0, 0)) zar2 hb)
 have n4_ := Aside0.mk (blk_below (g := gb1107) (o := .cells #[.int .i64 a1_0, .int .i64 a1_1] 26 (0, 0)) zar4 hb)
 have n5_ := Aside0.mk (below_step zar6 hb)
 clear HO1113
 clear HO1118
 clear BK1106
 clear BK1107
 clear HB
 have HO1113 := n0_
 have HO1118 := n1_
 have HO1121 := n2_
 have BK1106 := n3_
 have BK1107 := n4_
 have HB := n5_
 clear n0_ n1_ n2_ n3_ n4_ n5_
 (try clear hb)
 (try clear hb2)
 (try clear hk)
 (try clear hi)
 (try clear ho0)
 (try clear hna_)
 (try clear hnb_)
 refine hK.out _ _ ⟨(blk_cell BK1106.out 0).trans rfl, (blk_cell BK1106.out 1).trans rfl, (blk_cell BK1106.out 2).trans rfl, (blk_cell BK1107.out 0).trans rfl, (blk_cell BK1107.out 1).trans rfl⟩ (fun hHeld => ?_)
 clear hK K
 refine norm_ (a' := ?_) ?_ ?_
 rotate_left
 ·show Act.put _ (some 34) _ = _
  simp only [Act.put, List.setIfInBounds_toArray, List.set_cons_zero, List.set_cons_succ, i64_w, i32_w]
  rfl
 refine pure_ (i := 7) (N := some 27) (v := ?_) (a' := ?_) #[true, true, true, true, true, true, true, true, false, false, false, false] rfl rfl (any_of HT_.out (by kernel_rfl)) (fun _ _ _ h => h) (Or.inl ⟨by rfl, ?_⟩) ?_ ?_
 rotate_left
 ·intro w'
  go_simp
  with_reducible rfl
 rotate_left
 ·simp only [Act.put, List.setIfInBounds_toArray, List.set_cons_zero, List.set_cons_succ, i64_w, i32_w]
  rfl
 refine pure_ (i := 8) (N := some 35) (v := ?_) (a' := ?_) #[true, true, true, true, true, true, true, true, true, false, false, false] rfl rfl (any_of HT_.out (by kernel_rfl)) (fun _ _ _ h => h) (Or.inl ⟨by rfl, ?_⟩) ?_ ?_
 rotate_left
 ·intro w'
  go_simp
  with_reducible rfl
 rotate_left
 ·simp only [Act.put, List.setIfInBounds_toArray, List.set_cons_zero, List.set_cons_succ, i64_w, i32_w]
  rfl
 refine pure_ (i := 9) (N := some 36) (v := ?_) (a' := ?_) #[true, true, true, true, true, true, true, true, true, true, false, false] rfl rfl (any_of HT_.out (by kernel_rfl)) (fun _ _ _ h => h) (Or.inl ⟨by rfl, ?_⟩) ?_ ?_
 rotate_left
 ·intro w'
  go_simp
  with_reducible rfl
 rotate_left
 ·simp only [Act.put, List.setIfInBounds_toArray, List.set_cons_zero, List.set_cons_succ, i64_w, i32_w]
  rfl
 refine pure_ (i := 10) (N := some 8) (v := ?_) (a' := ?_) #[true, true, true, true, true, true, true, true, true, true, true, false] rfl rfl (any_of HT_.out (by kernel_rfl)) (fun _ _ _ h => h) (Or.inl ⟨by rfl, ?_⟩) ?_ ?_
 rotate_left
 ·intro w'
  go_simp
  with_reducible rfl
 rotate_left
 ·simp only [Act.put, List.setIfInBounds_toArray, List.set_cons_zero, List.set_cons_succ, i64_w, i32_w]
  rfl
 refine pure_ (i := 11) (N := some 9) (v := ?_) (a' := ?_) #[true, true, true, true, true, true, true, true, true, true, true, true] rfl rfl (any_of HT_.out (by kernel_rfl)) (fun _ _ _ h => h) (Or.inl ⟨by rfl, ?_⟩) ?_ ?_
 rotate_left
 ·intro w'
  go_simp
  with_reducible rfl
 rotate_left
 ·simp only [Act.put, List.setIfInBounds_toArray, List.set_cons_zero, List.set_cons_succ, i64_w, i32_w]
  rfl
 refine done_ (done_of HT_.out (by kernel_rfl)) ?_
 have hcz35_0 : w34.cell? ⟨gb1106, 0, none⟩ = some (.int .i64 a0_0) := (blk_cell BK1106.out 0).trans rfl
 have hcz35_1 : w34.cell? ⟨gb1106, 1, none⟩ = some (.int .i64 a0_1) := (blk_cell BK1106.out 1).trans rfl
 have hcz35_2 : w34.cell? ⟨gb1106, 2, none⟩ = some (.slice A0_2 l0_2.length c0_2) := (blk_cell BK1106.out 2).trans rfl
 have hfz35_0 := blk_frozen BK1106.out 0
 have hfz35_1 := blk_frozen BK1106.out 1
 have hfz35_2 := blk_frozen BK1106.out 2
 try go_wp2_with (first | ((with_reducible refine gate_callee (f := 17) rfl ?_); refine goesL_ (some 38) rfl rfl Try.func17 (by kernel_rfl) rfl #[.agg #[.int .i64 a0_0, .int .i64 a0_1, .slice A0_2 l0_2.length c0_2]] rfl zar3 ?_; (with_reducible refine (laws_toBoard.calls k a0_0 a0_1 _ _ l0_2 t1123 t1124 t1125 _ ?side1 ?side2 A18.out).mono ?_); (case side1 => exact zar13); (case side2 => exact HC0_2.out); rintro e w36 ⟨v1126, rfl, ho0, hb⟩; refine ⟨_, rfl, ?_⟩; have n0_ := Aside0.mk (Kd.R_elder' zar16 (Kd.R_base ho0) hb); have n1_ := Aside0.mk (Kd.R_elder' zar18 (Kd.R_base ho0) hb); have n2_ := Aside0.mk (Kd.R_elder' zar20 (Kd.R_base ho0) hb); have n3_ := Aside0.mk (Kd.R_lower (Kd.R_new' (Kd.R_new' (Kd.R_new' ho0 (Kd.R_lt zar16)) (Kd.R_lt zar18)) (Kd.R_lt zar20)) (below_size zar6)); have n4_ := Aside0.mk (blk_below (g := gb1106) (o := .cells #[.int .i64 a0_0, .int .i64 a0_1, .slice A0_2 l0_2.length c0_2] 24 (0, 0)) zar2 hb); have n5_ := Aside0.mk (blk_below (g := gb1107) (o := .cells #[.int .i64 a1_0, .int .i64 a1_1] 26 (0, 0)) zar4 hb); have n6_ := Aside0.mk (below_step zar6 hb); clear HO1113; clear HO1118; clear HO1121; clear BK1106; clear BK1107; clear HB; have HO1113 := n0_; have HO1118 := n1_; have HO1121 := n2_; have HO1127 := n3_; have BK1106 := n4_; have BK1107 := n5_; have HB := n6_; clear n0_ n1_ n2_ n3_ n4_ n5_ n6_; (try clear hb); (try clear hb2); (try clear hk); (try clear hi); (try clear ho0); (try clear hna_); (try clear hnb_)) | ((with_reducible refine gate_dst (N := 10) rfl ?_); refine box_event ?hg (N := 10) ?hd (cs := #[.int .i64 0, .int .i64 0, .slice none 0 0]) (t := 30) ?hr ?_; (case hd => rfl); (case hg => rfl); (case hr => first | (go_simp; done) | (go_simp; rfl)); intro gb1128 hg w37 hbox hb; have n0_ := Aside0.mk (Kd.R_below zar16 hb); have n1_ := Aside0.mk (Kd.R_below zar18 hb); have n2_ := Aside0.mk (Kd.R_below zar20 hb); have n3_ := Aside0.mk (Kd.R_below zar31 hb); have n4_ := Aside0.mk (blk_below (g := gb1106) (o := .cells #[.int .i64 a0_0, .int .i64 a0_1, .slice A0_2 l0_2.length c0_2] 24 (0, 0)) zar2 hb); have n5_ := Aside0.mk (blk_below (g := gb1107) (o := .cells #[.int .i64 a1_0, .int .i64 a1_1] 26 (0, 0)) zar4 hb); have n6_ := Aside0.mk (below_step zar6 hb); have n7_ := Aside0.mk (hbox); have n8_ := Aside0.mk ((by rw [hg]; exact (below_size zar6) : w.heap.size ≤ gb1128)); have n9_ := Aside0.mk ((by rw [hg]; exact (below_size zar6) : w.heap.size ≤ gb1128)); have n10_ := Aside0.mk ((zar52 : gb1106 ≠ gb1128)); have n11_ := Aside0.mk ((zar53 : gb1128 ≠ gb1106)); have n12_ := Aside0.mk ((by rw [hg]; exact Nat.ne_of_lt (blk_lt (g := gb1107) (o := .cells #[.int .i64 a1_0, .int .i64 a1_1] 26 (0, 0)) zar4) : gb1107 ≠ gb1128)); have n13_ := Aside0.mk ((by rw [hg]; exact Nat.ne_of_gt (blk_lt (g := gb1107) (o := .cells #[.int .i64 a1_0, .int .i64 a1_1] 26 (0, 0)) zar4) : gb1128 ≠ gb1107)); clear HO1113; clear HO1118; clear HO1121; clear HO1127; clear BK1106; clear BK1107; clear HB; have HO1113 := n0_; have HO1118 := n1_; have HO1121 := n2_; have HO1127 := n3_; have BK1106 := n4_; have BK1107 := n5_; have HB := n6_; have BK1128 := n7_; have GW1128 := n8_; have GE1128 := n9_; have NB1106_1128 := n10_; have NB1128_1106 := n11_; have NB1107_1128 := n12_; have NB1128_1107 := n13_; clear n0_ n1_ n2_ n3_ n4_ n5_ n6_ n7_ n8_ n9_ n10_ n11_ n12_ n13_; clear hb hbox hg; have hnb38 := NB1128_1106.out; have hnc38 := NB1106_1128.out; have hnb39 := NB1128_1107.out; have hnc39 := NB1107_1128.out; have hcz40_0 : w37.cell? ⟨gb1128, 0, none⟩ = some (.int .i64 0) := (blk_cell BK1128.out 0).trans rfl; have hcz40_1 : w37.cell? ⟨gb1128, 1, none⟩ = some (.int .i64 0) := (blk_cell BK1128.out 1).trans rfl; have hcz40_2 : w37.cell? ⟨gb1128, 2, none⟩ = some (.slice none 0 0) := (blk_cell BK1128.out 2).trans rfl; have hfz40_0 := blk_frozen BK1128.out 0; have hfz40_1 := blk_frozen BK1128.out 1; have hfz40_2 := blk_frozen BK1128.out 2; obtain ⟨Ao41, co41, eo41⟩ := Kd.R_slice HO1127.out; subst eo41) | ((with_reducible refine gate_callee (f := 19) rfl ?_); refine goesL_ (some 40) rfl rfl Try.func19 (by kernel_rfl) rfl #[.slice A2 l2.length c2] rfl zar3 ?_; (with_reducible refine (laws_toIntS.calls k _ _ l2 t1129 _ ?side1 ?side2 A19.out).mono ?_); (case side1 => exact Kd.C_below HR2.out zar1); (case side2 => exact HC2.out); rintro e w42 ⟨v1130, rfl, ho0, hb⟩; refine ⟨_, rfl, ?_⟩; have n0_ := Aside0.mk (Kd.R_elder' zar27 (Kd.R_base ho0) hb); have n1_ := Aside0.mk (Kd.R_elder' zar26 (Kd.R_base ho0) hb); have n2_ := Aside0.mk (Kd.R_elder' zar25 (Kd.R_base ho0) hb); have n3_ := Aside0.mk (Kd.R_elder' zar24 (Kd.R_base ho0) hb); have n4_ := Aside0.mk (Kd.R_lower (Kd.R_new' (Kd.R_new' (Kd.R_new' (Kd.R_new' ho0 (Kd.R_lt zar27)) (Kd.R_lt zar26)) (Kd.R_lt zar25)) (Kd.R_lt zar24)) (below_size zar1)); have n5_ := Aside0.mk (blk_below (g := gb1106) (o := .cells #[.int .i64 a0_0, .int .i64 a0_1, .slice A0_2 l0_2.length c0_2] 24 (0, 0)) (by (with_reducible repeat (first | refine blk_drewN ?_ _ | refine blk_drew ?_ | refine blk_alloc ?_ _)); refine blk_far ?_ NB1106_1128.out _; (with_reducible repeat (first | refine blk_drewN ?_ _ | refine blk_drew ?_ | refine blk_alloc ?_ _)); refine blk_far ?_ NB1106_1128.out _; (with_reducible repeat (first | refine blk_drewN ?_ _ | refine blk_drew ?_ | refine blk_alloc ?_ _)); refine blk_far ?_ NB1106_1128.out _; (with_reducible repeat (first | refine blk_drewN ?_ _ | refine blk_drew ?_ | refine blk_alloc ?_ _)); exact BK1106.out) hb); have n6_ := Aside0.mk (blk_below (g := gb1107) (o := .cells #[.int .i64 a1_0, .int .i64 a1_1] 26 (0, 0)) (by (with_reducible repeat (first | refine blk_drewN ?_ _ | refine blk_drew ?_ | refine blk_alloc ?_ _)); refine blk_far ?_ NB1107_1128.out _; (with_reducible repeat (first | refine blk_drewN ?_ _ | refine blk_drew ?_ | refine blk_alloc ?_ _)); refine blk_far ?_ NB1107_1128.out _; (with_reducible repeat (first | refine blk_drewN ?_ _ | refine blk_drew ?_ | refine blk_alloc ?_ _)); refine blk_far ?_ NB1107_1128.out _; (with_reducible repeat (first | refine blk_drewN ?_ _ | refine blk_drew ?_ | refine blk_alloc ?_ _)); exact BK1107.out) hb); have n7_ := Aside0.mk (blk_below (g := gb1128) (o := .cells #[.int .i64 t1123, .int .i64 t1124, .slice Ao41 t1125.length co41] 30 (0, 0)) (by (with_reducible repeat (first | refine blk_drewN ?_ _ | refine blk_drew ?_ | refine blk_alloc ?_ _)); refine blk_put (cs := #[.int .i64 t1123, .int .i64 t1124, .slice none 0 0]) ?_ 2 _ rfl; (with_reducible repeat (first | refine blk_drewN ?_ _ | refine blk_drew ?_ | refine blk_alloc ?_ _)); refine blk_put (cs := #[.int .i64 t1123, .int .i64 0, .slice none 0 0]) ?_ 1 _ rfl; (with_reducible repeat (first | refine blk_drewN ?_ _ | refine blk_drew ?_ | refine blk_alloc ?_ _)); refine blk_put (cs := #[.int .i64 0, .int .i64 0, .slice none 0 0]) ?_ 0 _ rfl; (with_reducible repeat (first | refine blk_drewN ?_ _ | refine blk_drew ?_ | refine blk_alloc ?_ _)); exact BK1128.out) hb); have n8_ := Aside0.mk (below_step zar1 hb); clear HO1113; clear HO1118; clear HO1121; clear HO1127; clear BK1106; clear BK1107; clear BK1128; clear HB; have HO1113 := n0_; have HO1118 := n1_; have HO1121 := n2_; have HO1127 := n3_; have HO1131 := n4_; have BK1106 := n5_; have BK1107 := n6_; have BK1128 := n7_; have HB := n8_; clear n0_ n1_ n2_ n3_ n4_ n5_ n6_ n7_ n8_; (try clear hb); (try clear hb2); (try clear hk); (try clear hi); (try clear ho0); (try clear hna_); (try clear hnb_)))
 have n0_ := Aside0.mk (Kd.R_drew HO1113.out)
 have n1_ := Aside0.mk (Kd.R_drew HO1118.out)
 have n2_ := Aside0.mk (Kd.R_drew HO1121.out)
 have n3_ := Aside0.mk (Kd.R_drew HO1127.out)
 have n4_ := Aside0.mk (Kd.R_drew HO1131.out)
 have n5_ := Aside0.mk (blk_drew BK1106.out)
 have n6_ := Aside0.mk (blk_drew BK1107.out)
 have n7_ := Aside0.mk (blk_drew BK1128.out)
 have n8_ := Aside0.mk (below_drew1 HB.out)
 clear HO1113
 clear HO1118
 clear HO1121
 clear HO1127
 clear HO1131
 clear BK1106
 clear BK1107
 clear BK1128
 clear HB
 have HO1113 := n0_
 have HO1118 := n1_
 have HO1121 := n2_
 have HO1127 := n3_
 have HO1131 := n4_
 have BK1106 := n5_
 have BK1107 := n6_
 have BK1128 := n7_
 have HB := n8_
 clear n0_ n1_ n2_ n3_ n4_ n5_ n6_ n7_ n8_
 refine start_ (n := 10) (S := fun w' => w'.cell? ⟨gb1128, 0, none⟩ = some (.int .i64 t1123) ∧ w'.cell? ⟨gb1128, 1, none⟩ = some (.int .i64 t1124) ∧ w'.cell? ⟨gb1128, 2, none⟩ = some (.slice Ao41 t1125.length co41) ∧ w'.cell? ⟨gb1107, 0, none⟩ = some (.int .i64 a1_0) ∧ w'.cell? ⟨gb1107, 1, none⟩ = some (.int .i64 a1_1)) (ds := []) #[false, false, false, false, false, false, false, false, false, false] (by kernel_rfl) rfl rfl ⟨(blk_cell BK1128.out 0).trans rfl, (blk_cell BK1128.out 1).trans rfl, (blk_cell BK1128.out 2).trans rfl, (blk_cell BK1107.out 0).trans rfl, (blk_cell BK1107.out 1).trans rfl⟩ (fun hHeld => ?_); refine with_tabW laws_FnExactColumnSumsOf.tab10 laws_FnExactColumnSumsOf.bits10 (fun HT_ HW_ => ?_)
 generalize w42.drew = w43 at HO1113 HO1118 HO1121 HO1127 HO1131 BK1106 BK1107 BK1128 HB hHeld ⊢
 refine pure_ (i := 3) (N := some 45) (v := ?_) (a' := ?_) #[false, false, false, true, false, false, false, false, false, false] rfl rfl (any_of HT_.out (by kernel_rfl)) (fun _ _ _ h => h) (Or.inl ⟨by rfl, ?_⟩) ?_ ?_
 rotate_left
 ·intro w'
  go_simp
  with_reducible rfl
 rotate_left
 ·simp only [Act.put, List.setIfInBounds_toArray, List.set_cons_zero, List.set_cons_succ, i64_w, i32_w]
  rfl
 refine take_ (i := 0) (N := some 42) (v := ?_) (a' := ?_) #[true, false, false, true, false, false, false, false, false, false] rfl rfl (take_ofW HT_.out HW_.out (by kernel_rfl)) (fun _ _ _ h => h) (Or.inl ⟨by rfl, ?_⟩) hHeld ?_ ?_
 rotate_left
 ·rintro w' ⟨s0, s1, s2, s3, s4⟩
  go_simp
  with_reducible rfl
 rotate_left
 ·simp only [Act.put, List.setIfInBounds_toArray, List.set_cons_zero, List.set_cons_succ, i64_w, i32_w]
  rfl
 refine take_ (i := 1) (N := some 43) (v := ?_) (a' := ?_) #[true, true, false, true, false, false, false, false, false, false] rfl rfl (take_ofW HT_.out HW_.out (by kernel_rfl)) (fun _ _ _ h => h) (Or.inl ⟨by rfl, ?_⟩) hHeld ?_ ?_
 rotate_left
 ·rintro w' ⟨s0, s1, s2, s3, s4⟩
  go_simp
  with_reducible rfl
 rotate_left
 ·simp only [Act.put, List.setIfInBounds_toArray, List.set_cons_zero, List.set_cons_succ, i64_w, i32_w]
  rfl
 refine one_ (i := 2) (N := some 44) #[true, true, true, true, false, false, false, false, false, false] rfl rfl (one_of HT_.out (by kernel_rfl)) (by decide) (fun K hK => ?_)
 refine goes_ Try.func18 (by kernel_rfl) rfl #[.agg #[.int .i64 a1_0, .int .i64 a1_1]] (by rfl) rfl rfl zar3 ?_
 with_reducible refine (laws_toLeaper.calls a1_0 a1_1 t1132 t1133 _ A20.out).mono ?_
 rintro e w44 ⟨rfl, hb⟩
 refine ⟨_, rfl, ?_⟩
 have n0_ := Aside0.mk (Kd.R_below zar16 hb)
 have n1_ := Aside0.mk (Kd.R_below zar18 hb)
 have n2_ := Aside0.mk (Kd.R_below zar20 hb)
 have n3_ := Aside0.mk (Kd.R_below zar31 hb)
 have n4_ := Aside0.mk (Kd.R_below zar36 hb)
 have n5_ := Aside0.mk (blk_below (g := gb1106) (o := .cells #[.int .i64 a0_0, .int .i64 a0_1, .slice A0_2 l0_2.length c0_2] 24 (0, 0)) zar2 hb)
 have n6_ := Aside0.mk (blk_below (g := gb1107) (o := .cells #[.int .i64 a1_0, .int .i64 a1_1] 26 (0, 0)) zar4 hb)
 have n7_ := Aside0.mk (blk_below (g := gb1128) (o := .cells #[.int .i64 t1123, .int .i64 t1124, .slice Ao41 t1125.length co41] 30 (0, 0)) zar7 hb)
 have n8_ := Aside0.mk (below_step zar1 hb)
 clear HO1113
 clear HO1118
 clear HO1121
 clear HO1127
 clear HO1131
 clear BK1106
 clear BK1107
 clear BK1128
 clear HB
 have HO1113 := n0_
 have HO1118 := n1_
 have HO1121 := n2_
 have HO1127 := n3_
 have HO1131 := n4_
 have BK1106 := n5_
 have BK1107 := n6_
 have BK1128 := n7_
 have HB := n8_
 clear n0_ n1_ n2_ n3_ n4_ n5_ n6_ n7_ n8_
 (try clear hb)
 (try clear hb2)
 (try clear hk)
 (try clear hi)
 (try clear hna_)
 (try clear hnb_)
 obtain ⟨Ao45, co45, eo45⟩ := Kd.R_slice HO1131.out
 (first | subst eo45 | (injection eo45 with f1_ f2_ f3_; have f4_ := f1_.symm; have f5_ := f3_.symm; clear f1_ f2_ f3_; subst f4_; subst f5_))
 refine hK.out _ _ ⟨(blk_cell BK1128.out 0).trans rfl, (blk_cell BK1128.out 1).trans rfl, (blk_cell BK1128.out 2).trans rfl, (blk_cell BK1107.out 0).trans rfl, (blk_cell BK1107.out 1).trans rfl⟩ (fun hHeld => ?_)
 clear hK K
 refine norm_ (a' := ?_) ?_ ?_
 rotate_left
 ·show Act.put _ (some 44) _ = _
  simp only [Act.put, List.setIfInBounds_toArray, List.set_cons_zero, List.set_cons_succ, i64_w, i32_w]
  rfl
 refine one_ (i := 4) (N := some 46) #[true, true, true, true, true, false, false, false, false, false] rfl rfl (one_of HT_.out (by kernel_rfl)) (by decide) (fun K hK => ?_)
 refine goes_ Try.func43 (by kernel_rfl) rfl #[.agg #[.int .i64 t1123, .int .i64 t1124, .slice Ao41 t1125.length co41], .agg #[.int .i64 t1132, .int .i64 t1133], .slice Ao45 t1129.length co45] (by rfl) rfl rfl zar3 ?_
 with_reducible refine (impl_ColumnSumsOf.calls k t1123 t1124 _ _ t1125 t1132 t1133 _ _ t1129 t1134 t1137 _ ?side1 ?side2 ?side3 ?side4 A21.out).mono ?_
 (case side1 => repeat (first | exact (Kd.R_reads' HO1127.out).2.2 | (with_reducible refine Kd.C_alloc ?_ _) | (with_reducible refine Kd.C_drewN ?_ _) | (with_reducible refine Kd.C_drew ?_)))
 (case side2 => exact (Kd.R_reads' HO1127.out).2.1)
 (case side3 => repeat (first | exact (Kd.R_reads' HO1131.out).2.2 | (with_reducible refine Kd.C_alloc ?_ _) | (with_reducible refine Kd.C_drewN ?_ _) | (with_reducible refine Kd.C_drew ?_)))
 (case side4 => exact (Kd.R_reads' HO1131.out).2.1)
 rintro e w46 ⟨v1135, rfl, ho0, hb⟩
 refine ⟨_, rfl, ?_⟩
 have n0_ := Aside0.mk (Kd.R_elder' zar16 (Kd.R_base ho0) hb)
 have n1_ := Aside0.mk (Kd.R_elder' zar18 (Kd.R_base ho0) hb)
 have n2_ := Aside0.mk (Kd.R_elder' zar20 (Kd.R_base ho0) hb)
 have n3_ := Aside0.mk (Kd.R_elder' zar31 (Kd.R_base ho0) hb)
 have n4_ := Aside0.mk (Kd.R_elder' zar36 (Kd.R_base ho0) hb)
 have n5_ := Aside0.mk (Kd.R_lower (Kd.R_new' (Kd.R_new' (Kd.R_new' (Kd.R_new' (Kd.R_new' ho0 (Kd.R_lt zar16)) (Kd.R_lt zar18)) (Kd.R_lt zar20)) (Kd.R_lt zar31)) (Kd.R_lt zar36)) (below_size zar1))
 have n6_ := Aside0.mk (blk_below (g := gb1106) (o := .cells #[.int .i64 a0_0, .int .i64 a0_1, .slice A0_2 l0_2.length c0_2] 24 (0, 0)) zar2 hb)
 have n7_ := Aside0.mk (blk_below (g := gb1107) (o := .cells #[.int .i64 a1_0, .int .i64 a1_1] 26 (0, 0)) zar4 hb)
 have n8_ := Aside0.mk (blk_below (g := gb1128) (o := .cells #[.int .i64 t1123, .int .i64 t1124, .slice Ao41 t1125.length co41] 30 (0, 0)) zar7 hb)
 have n9_ := Aside0.mk (below_step zar1 hb)
 clear HO1113
 clear HO1118
 clear HO1121
 clear HO1127
 clear HO1131
 clear BK1106
 clear BK1107
 clear BK1128
 clear HB
 have HO1113 := n0_
 have HO1118 := n1_
 have HO1121 := n2_
 have HO1127 := n3_
 have HO1131 := n4_
 have HO1136 := n5_
 have BK1106 := n6_
 have BK1107 := n7_
 have BK1128 := n8_
 have HB := n9_
 clear n0_ n1_ n2_ n3_ n4_ n5_ n6_ n7_ n8_ n9_
 (try clear hb)
 (try clear hb2)
 (try clear hk)
 (try clear hi)
 (try clear ho0)
 (try clear hna_)
 (try clear hnb_)
 refine hK.out _ _ ⟨(blk_cell BK1128.out 0).trans rfl, (blk_cell BK1128.out 1).trans rfl, (blk_cell BK1128.out 2).trans rfl, (blk_cell BK1107.out 0).trans rfl, (blk_cell BK1107.out 1).trans rfl⟩ (fun hHeld => ?_)
 clear hK K
 refine norm_ (a' := ?_) ?_ ?_
 rotate_left
 ·show Act.put _ (some 46) _ = _
  simp only [Act.put, List.setIfInBounds_toArray, List.set_cons_zero, List.set_cons_succ, i64_w, i32_w]
  rfl
 refine pure_ (i := 5) (N := some 41) (v := ?_) (a' := ?_) #[true, true, true, true, true, true, false, false, false, false] rfl rfl (any_of HT_.out (by kernel_rfl)) (fun _ _ _ h => h) (Or.inl ⟨by rfl, ?_⟩) ?_ ?_
 rotate_left
 ·intro w'
  go_simp
  with_reducible rfl
 rotate_left
 ·simp only [Act.put, List.setIfInBounds_toArray, List.set_cons_zero, List.set_cons_succ, i64_w, i32_w]
  rfl
 refine pure_ (i := 6) (N := some 47) (v := ?_) (a' := ?_) #[true, true, true, true, true, true, true, false, false, false] rfl rfl (any_of HT_.out (by kernel_rfl)) (fun _ _ _ h => h) (Or.inl ⟨by rfl, ?_⟩) ?_ ?_
 rotate_left
 ·intro w'
  go_simp
  with_reducible rfl
 rotate_left
 ·simp only [Act.put, List.setIfInBounds_toArray, List.set_cons_zero, List.set_cons_succ, i64_w, i32_w]
  rfl
 refine pure_ (i := 7) (N := some 48) (v := ?_) (a' := ?_) #[true, true, true, true, true, true, true, true, false, false] rfl rfl (any_of HT_.out (by kernel_rfl)) (fun _ _ _ h => h) (Or.inl ⟨by rfl, ?_⟩) ?_ ?_
 rotate_left
 ·intro w'
  go_simp
  with_reducible rfl
 rotate_left
 ·simp only [Act.put, List.setIfInBounds_toArray, List.set_cons_zero, List.set_cons_succ, i64_w, i32_w]
  rfl
 refine pure_ (i := 8) (N := some 12) (v := ?_) (a' := ?_) #[true, true, true, true, true, true, true, true, true, false] rfl rfl (any_of HT_.out (by kernel_rfl)) (fun _ _ _ h => h) (Or.inl ⟨by rfl, ?_⟩) ?_ ?_
 rotate_left
 ·intro w'
  go_simp
  with_reducible rfl
 rotate_left
 ·simp only [Act.put, List.setIfInBounds_toArray, List.set_cons_zero, List.set_cons_succ, i64_w, i32_w]
  rfl
 refine pure_ (i := 9) (N := some 13) (v := ?_) (a' := ?_) #[true, true, true, true, true, true, true, true, true, true] rfl rfl (any_of HT_.out (by kernel_rfl)) (fun _ _ _ h => h) (Or.inl ⟨by rfl, ?_⟩) ?_ ?_
 rotate_left
 ·intro w'
  go_simp
  with_reducible rfl
 rotate_left
 ·simp only [Act.put, List.setIfInBounds_toArray, List.set_cons_zero, List.set_cons_succ, i64_w, i32_w]
  rfl
 refine done_ (done_of HT_.out (by kernel_rfl)) ?_
 go_upto_region 11 with (fail)
 go_cut [57] (fun v57 wc => ∃ (kq : Nat) (x57_21 : Bool), v57 = .bool x57_21 ∧ Aside0 (laws_FnExactColumnSumsOf.j0 kq l2 t1119 t1122 t1129 t1134 t1137 x57_21 a0_0 a0_1 l0_2 a1_0 a1_1 t1123 t1124 t1125 = some r) ∧ Aside0 (kq ≤ k) ∧ Aside0 (Kd.R (Kd.int .i64) 3 wc w.heap.size (fun k_ => some k_ ≠ ((.slice Ao45 t1129.length co45) : Value).ownBlock ∧ some k_ ≠ (v1135 : Value).ownBlock ∧ some k_ ≠ ((.slice Ao41 t1125.length co41) : Value).ownBlock) v1120 t1119) ∧ Aside0 (Kd.R (Kd.int .i64) 3 wc w.heap.size (fun k_ => some k_ ≠ (v1120 : Value).ownBlock ∧ some k_ ≠ (v1135 : Value).ownBlock ∧ some k_ ≠ ((.slice Ao41 t1125.length co41) : Value).ownBlock) (.slice Ao45 t1129.length co45) t1129) ∧ Aside0 (Kd.R (Kd.int .i64) 3 wc w.heap.size (fun k_ => some k_ ≠ (v1120 : Value).ownBlock ∧ some k_ ≠ ((.slice Ao45 t1129.length co45) : Value).ownBlock ∧ some k_ ≠ ((.slice Ao41 t1125.length co41) : Value).ownBlock) v1135 t1134) ∧ Aside0 (Kd.R (Kd.int .i64) 3 wc w.heap.size (fun k_ => some k_ ≠ (v1120 : Value).ownBlock ∧ some k_ ≠ ((.slice Ao45 t1129.length co45) : Value).ownBlock ∧ some k_ ≠ (v1135 : Value).ownBlock) (.slice Ao41 t1125.length co41) t1125) ∧ Aside0 (wc.heap[gb1106]? = some (.cells #[.int .i64 a0_0, .int .i64 a0_1, (.slice A0_2 l0_2.length c0_2)] 24 (0, 0))) ∧ Aside0 (wc.heap[gb1107]? = some (.cells #[.int .i64 a1_0, .int .i64 a1_1] 26 (0, 0))) ∧ Aside0 (wc.heap[gb1128]? = some (.cells #[.int .i64 t1123, .int .i64 t1124, (.slice Ao41 t1125.length co41)] 30 (0, 0))) ∧ Aside0 (Below w.heap.size w wc))
 case first =>
  have H := HC22.out
  clear HC22
  replace H := Option.bind_eq_some_iff.mp H
  obtain ⟨t1138, A470, H⟩ := H
  replace H : (if t1138 = true then (laws_FnExactColumnSumsOf.j0 k l2 t1119 t1122 t1129 t1134 t1137 (t1137 != t1122) a0_0 a0_1 l0_2 a1_0 a1_1 t1123 t1124 t1125) else (laws_FnExactColumnSumsOf.j0 k l2 t1119 t1122 t1129 t1134 t1137 true a0_0 a0_1 l0_2 a1_0 a1_1 t1123 t1124 t1125)) = some r := H
  have A47 := Aside0.mk A470
  clear A470
  by_cases c48 : t1138 = true
  ·subst c48
   have H1 : (laws_FnExactColumnSumsOf.j0 k l2 t1119 t1122 t1129 t1134 t1137 (t1137 != t1122) a0_0 a0_1 l0_2 a1_0 a1_1 t1123 t1124 t1125) = some r := by rw [if_pos rfl] at H; exact H
   clear H
   have H := H1
   clear H1
   have H' := Aside0.mk H
   clear H
   obtain ⟨Ao49, co49, eo49⟩ := Kd.R_slice HO1136.out
   subst eo49
   obtain ⟨Ao50, co50, eo50⟩ := Kd.R_slice HO1121.out
   subst eo50
   go_wp2_with (first | ((with_reducible refine gate_callee (f := 22) rfl ?_); refine goesL_ (some 51) rfl rfl Try.func22 (by kernel_rfl) rfl #[.slice Ao49 t1134.length co49, .slice Ao50 t1119.length co50] rfl zar3 ?_; (with_reducible refine (laws_eqIntS.calls k _ _ t1134 _ _ t1119 true _ ?side1 ?side2 ?side3 ?side4 A47.out).mono ?_); (case side1 => exact zar46); (case side2 => exact (Kd.R_reads' HO1136.out).2.1); (case side3 => exact zar47); (case side4 => exact (Kd.R_reads' HO1121.out).2.1); rintro e w' ⟨rfl, ⟨nd, rfl⟩⟩; refine ⟨_, rfl, ?_⟩))
   go_meet
   case rel => exact ⟨_, ((t1137 != t1122)), zar35, H', ⟨by first | omega | exact Nat.le_refl _⟩, ⟨zar43⟩, ⟨zar41⟩, ⟨zar40⟩, ⟨zar42⟩, ⟨zar2⟩, ⟨zar4⟩, ⟨zar7⟩, ⟨zar1⟩⟩
  replace c48 := Bool.eq_false_iff.mpr c48
  subst c48
  have H1 : (laws_FnExactColumnSumsOf.j0 k l2 t1119 t1122 t1129 t1134 t1137 true a0_0 a0_1 l0_2 a1_0 a1_1 t1123 t1124 t1125) = some r := by rw [if_neg (show ¬ (false = true) by decide)] at H; exact H
  clear H
  have H := H1
  clear H1
  have H' := Aside0.mk H
  clear H
  obtain ⟨Ao51, co51, eo51⟩ := Kd.R_slice HO1136.out
  subst eo51
  obtain ⟨Ao52, co52, eo52⟩ := Kd.R_slice HO1121.out
  subst eo52
  go_wp2_with (first | ((with_reducible refine gate_callee (f := 22) rfl ?_); refine goesL_ (some 51) rfl rfl Try.func22 (by kernel_rfl) rfl #[.slice Ao51 t1134.length co51, .slice Ao52 t1119.length co52] rfl zar3 ?_; (with_reducible refine (laws_eqIntS.calls k _ _ t1134 _ _ t1119 false _ ?side1 ?side2 ?side3 ?side4 A47.out).mono ?_); (case side1 => exact zar46); (case side2 => exact (Kd.R_reads' HO1136.out).2.1); (case side3 => exact zar47); (case side4 => exact (Kd.R_reads' HO1121.out).2.1); rintro e w' ⟨rfl, ⟨nd, rfl⟩⟩; refine ⟨_, rfl, ?_⟩))
  go_meet
  case rel => exact ⟨_, (true), zar35, H', ⟨by first | omega | exact Nat.le_refl _⟩, ⟨zar43⟩, ⟨zar41⟩, ⟨zar40⟩, ⟨zar42⟩, ⟨zar2⟩, ⟨zar4⟩, ⟨zar7⟩, ⟨zar1⟩⟩
 case rest =>
  clear HC22
  try clear c1; try clear c2; try clear p2; try clear c3; try clear c4; try clear c4b0; try clear c4b1; try clear c8; try clear c8b0; try clear c11; try clear c12; try clear c15; try clear c17; try clear c18; try clear c19; try clear c22; try clear c25; try clear c38; try clear c39; try clear c42; try clear c43; try clear c48; try clear hcz12_0; try clear hcz12_1; try clear hcz12_2; try clear hcz26_0; try clear hcz26_1; try clear hcz26_2; try clear hcz35_0; try clear hcz35_1; try clear hcz35_2; try clear hcz40_0; try clear hcz40_1; try clear hcz40_2; try clear hfz12_0; try clear hfz12_1; try clear hfz12_2
  try clear hfz26_0; try clear hfz26_1; try clear hfz26_2; try clear hfz35_0; try clear hfz35_1; try clear hfz35_2; try clear hfz40_0; try clear hfz40_1; try clear hfz40_2
  obtain ⟨kq, x57_21, rfl, HA, HJ21, HO_8, HO_11, HO_12, HO_1129002, BK1106, BK1107, BK1128, HB⟩ := hcut
  cases kq with
  | zero => exact absurd HA.out (by simp [laws_FnExactColumnSumsOf.j0])
  | succ kj21 =>
   have H := HA.out
   clear HA
   simp only [laws_FnExactColumnSumsOf.j0] at H
   by_cases c53 : x57_21 = true
   ·subst c53
    have H1 : (some false) = some r := by rw [if_pos rfl] at H; exact H
    clear H
    have H := H1
    clear H1
    obtain rfl := Option.some.inj H
    go_wp2
    go_ret
    exact ⟨zar17, zar1⟩
   replace c53 := Bool.eq_false_iff.mpr c53
   subst c53
   have H1 : ((laws_toBoard.f kj21 a0_0 a0_1 l0_2).bind fun bt1139 => ((laws_eqBoard.f kj21 t1123 t1124 t1125 bt1139.1 bt1139.2.1 bt1139.2.2).bind fun t1144 => (if t1144 = true then ((laws_toIntS.f kj21 l2).bind fun t1145 => ((laws_eqIntS.f kj21 t1129 t1145).bind fun t1148 => (if t1148 = true then ((laws_markBoard.f kj21 t1123 t1124 t1125 1).bind fun bt1149 => ((laws_markIntS.f kj21 t1129 bt1149.1).bind fun bt1151 => (if bt1151.1 < 0 then (laws_FnExactColumnSumsOf.j1 kj21 l2 t1119 t1122 t1134 true a0_0 a0_1 l0_2 a1_0 a1_1) else ((laws_eqIntS.f kj21 t1134 t1119).bind fun t1153 => (if t1153 = true then (laws_FnExactColumnSumsOf.j1 kj21 l2 t1119 t1122 t1134 (t1137 != t1122) a0_0 a0_1 l0_2 a1_0 a1_1) else (laws_FnExactColumnSumsOf.j1 kj21 l2 t1119 t1122 t1134 true a0_0 a0_1 l0_2 a1_0 a1_1)))))) else (some false)))) else (some false)))) = some r := by rw [if_neg (show ¬ (false = true) by decide)] at H; exact H
   clear H
   have H := H1
   clear H1
   replace H := Option.bind_eq_some_iff.mp H
   obtain ⟨⟨t1139, t1140, t1141⟩, A540, H⟩ := H
   replace H : ((laws_eqBoard.f kj21 t1123 t1124 t1125 t1139 t1140 t1141).bind fun t1144 => (if t1144 = true then ((laws_toIntS.f kj21 l2).bind fun t1145 => ((laws_eqIntS.f kj21 t1129 t1145).bind fun t1148 => (if t1148 = true then ((laws_markBoard.f kj21 t1123 t1124 t1125 1).bind fun bt1149 => ((laws_markIntS.f kj21 t1129 bt1149.1).bind fun bt1151 => (if bt1151.1 < 0 then (laws_FnExactColumnSumsOf.j1 kj21 l2 t1119 t1122 t1134 true a0_0 a0_1 l0_2 a1_0 a1_1) else ((laws_eqIntS.f kj21 t1134 t1119).bind fun t1153 => (if t1153 = true then (laws_FnExactColumnSumsOf.j1 kj21 l2 t1119 t1122 t1134 (t1137 != t1122) a0_0 a0_1 l0_2 a1_0 a1_1) else (laws_FnExactColumnSumsOf.j1 kj21 l2 t1119 t1122 t1134 true a0_0 a0_1 l0_2 a1_0 a1_1)))))) else (some false)))) else (some false))) = some r := H
   have A54 := Aside0.mk A540
   clear A540
   replace H := Option.bind_eq_some_iff.mp H
   obtain ⟨t1144, A550, H⟩ := H
   replace H : (if t1144 = true then ((laws_toIntS.f kj21 l2).bind fun t1145 => ((laws_eqIntS.f kj21 t1129 t1145).bind fun t1148 => (if t1148 = true then ((laws_markBoard.f kj21 t1123 t1124 t1125 1).bind fun bt1149 => ((laws_markIntS.f kj21 t1129 bt1149.1).bind fun bt1151 => (if bt1151.1 < 0 then (laws_FnExactColumnSumsOf.j1 kj21 l2 t1119 t1122 t1134 true a0_0 a0_1 l0_2 a1_0 a1_1) else ((laws_eqIntS.f kj21 t1134 t1119).bind fun t1153 => (if t1153 = true then (laws_FnExactColumnSumsOf.j1 kj21 l2 t1119 t1122 t1134 (t1137 != t1122) a0_0 a0_1 l0_2 a1_0 a1_1) else (laws_FnExactColumnSumsOf.j1 kj21 l2 t1119 t1122 t1134 true a0_0 a0_1 l0_2 a1_0 a1_1)))))) else (some false)))) else (some false)) = some r := H
   have A55 := Aside0.mk A550
   clear A550
   by_cases c56 : t1144 = true
   rotate_left
   ·replace c56 := Bool.eq_false_iff.mpr c56
    subst c56
    have H1 : (some false) = some r := by rw [if_neg (show ¬ (false = true) by decide)] at H; exact H
    clear H
    have H := H1
    clear H1
    obtain rfl := Option.some.inj H
    try go_wp2
    have n0_ := Aside0.mk (Kd.R_drew HO_8.out)
    have n1_ := Aside0.mk (Kd.R_drew HO_11.out)
    have n2_ := Aside0.mk (Kd.R_drew HO_12.out)
    have n3_ := Aside0.mk (Kd.R_drew HO_1129002.out)
    have n4_ := Aside0.mk (blk_drew BK1106.out)
    have n5_ := Aside0.mk (blk_drew BK1107.out)
    have n6_ := Aside0.mk (blk_drew BK1128.out)
    have n7_ := Aside0.mk (below_drew1 HB.out)
    clear HO_8
    clear HO_11
    clear HO_12
    clear HO_1129002
    clear BK1106
    clear BK1107
    clear BK1128
    clear HB
    have HO_8 := n0_
    have HO_11 := n1_
    have HO_12 := n2_
    have HO_1129002 := n3_
    have BK1106 := n4_
    have BK1107 := n5_
    have BK1128 := n6_
    have HB := n7_
    clear n0_ n1_ n2_ n3_ n4_ n5_ n6_ n7_
    refine start_ (n := 5) (S := fun w' => w'.cell? ⟨gb1128, 0, none⟩ = some (.int .i64 t1123) ∧ w'.cell? ⟨gb1128, 1, none⟩ = some (.int .i64 t1124) ∧ w'.cell? ⟨gb1128, 2, none⟩ = some (.slice Ao41 t1125.length co41) ∧ w'.cell? ⟨gb1106, 0, none⟩ = some (.int .i64 a0_0) ∧ w'.cell? ⟨gb1106, 1, none⟩ = some (.int .i64 a0_1) ∧ w'.cell? ⟨gb1106, 2, none⟩ = some (.slice A0_2 l0_2.length c0_2)) (ds := []) #[false, false, false, false, false] (by kernel_rfl) rfl rfl ⟨(blk_cell BK1128.out 0).trans rfl, (blk_cell BK1128.out 1).trans rfl, (blk_cell BK1128.out 2).trans rfl, (blk_cell BK1106.out 0).trans rfl, (blk_cell BK1106.out 1).trans rfl, (blk_cell BK1106.out 2).trans rfl⟩ (fun hHeld => ?_)
    generalize wc.drew = w120 at HO_8 HO_11 HO_12 HO_1129002 BK1106 BK1107 BK1128 HB hHeld ⊢
    refine take_ (i := 0) (N := some 58) (v := ?_) (a' := ?_) #[true, false, false, false, false] rfl rfl (by kernel_rfl) (fun _ _ _ h => h) (Or.inl ⟨by rfl, ?_⟩) hHeld ?_ ?_
    rotate_left
    ·rintro w' ⟨s0, s1, s2, s3, s4, s5⟩
     go_simp
     with_reducible rfl
    rotate_left
    ·simp only [Act.put, List.setIfInBounds_toArray, List.set_cons_zero, List.set_cons_succ, i64_w, i32_w]
     rfl
    refine take_ (i := 1) (N := some 59) (v := ?_) (a' := ?_) #[true, true, false, false, false] rfl rfl (by kernel_rfl) (fun _ _ _ h => h) (Or.inl ⟨by rfl, ?_⟩) hHeld ?_ ?_
    rotate_left
    ·rintro w' ⟨s0, s1, s2, s3, s4, s5⟩
     go_simp
     with_reducible rfl
    rotate_left
    ·simp only [Act.put, List.setIfInBounds_toArray, List.set_cons_zero, List.set_cons_succ, i64_w, i32_w]
     rfl
    refine one_ (i := 2) (N := some 60) #[true, true, true, false, false] rfl rfl (by kernel_rfl) (by decide) (fun K hK => ?_)
    refine goes_ Try.func17 (by kernel_rfl) rfl #[.agg #[.int .i64 a0_0, .int .i64 a0_1, .slice A0_2 l0_2.length c0_2]] (by rfl) rfl rfl zar3 ?_
    with_reducible refine (laws_toBoard.calls kj21 a0_0 a0_1 _ _ l0_2 t1139 t1140 t1141 _ ?side1 ?side2 A54.out).mono ?_
    (case side1 => exact zar13)
    (case side2 => exact HC0_2.out)
    rintro e w121 ⟨v1142, rfl, ho0, hb⟩
    refine ⟨_, rfl, ?_⟩
    have n0_ := Aside0.mk (Kd.R_elder' zar10 (Kd.R_base ho0) hb)
    have n1_ := Aside0.mk (Kd.R_elder' zar12 (Kd.R_base ho0) hb)
    have n2_ := Aside0.mk (Kd.R_elder' zar9 (Kd.R_base ho0) hb)
    have n3_ := Aside0.mk (Kd.R_elder' zar8 (Kd.R_base ho0) hb)
    have n4_ := Aside0.mk (Kd.R_lower (Kd.R_new' (Kd.R_new' (Kd.R_new' (Kd.R_new' ho0 (Kd.R_lt zar10)) (Kd.R_lt zar12)) (Kd.R_lt zar9)) (Kd.R_lt zar8)) (below_size zar1))
    have n5_ := Aside0.mk (blk_below (g := gb1106) (o := .cells #[.int .i64 a0_0, .int .i64 a0_1, .slice A0_2 l0_2.length c0_2] 24 (0, 0)) zar2 hb)
    have n6_ := Aside0.mk (blk_below (g := gb1107) (o := .cells #[.int .i64 a1_0, .int .i64 a1_1] 26 (0, 0)) zar4 hb)
    have n7_ := Aside0.mk (blk_below (g := gb1128) (o := .cells #[.int .i64 t1123, .int .i64 t1124, .slice Ao41 t1125.length co41] 30 (0, 0)) zar7 hb)
    have n8_ := Aside0.mk (below_step zar1 hb)
    clear HO_8
    clear HO_11
    clear HO_12
    clear HO_1129002
    clear BK1106
    clear BK1107
    clear BK1128
    clear HB
    have HO_8 := n0_
    have HO_11 := n1_
    have HO_12 := n2_
    have HO_1129002 := n3_
    have HO1143 := n4_
    have BK1106 := n5_
    have BK1107 := n6_
    have BK1128 := n7_
    have HB := n8_
    clear n0_ n1_ n2_ n3_ n4_ n5_ n6_ n7_ n8_
    (try clear hb)
    (try clear hb2)
    (try clear hk)
    (try clear hi)
    (try clear ho0)
    (try clear hna_)
    (try clear hnb_)
    obtain ⟨Ao122, co122, eo122⟩ := Kd.R_slice HO1143.out
    (first | subst eo122 | (injection eo122 with f1_ f2_ f3_; have f4_ := f1_.symm; have f5_ := f3_.symm; clear f1_ f2_ f3_; subst f4_; subst f5_))
    refine hK.out _ _ ⟨(blk_cell BK1128.out 0).trans rfl, (blk_cell BK1128.out 1).trans rfl, (blk_cell BK1128.out 2).trans rfl, (blk_cell BK1106.out 0).trans rfl, (blk_cell BK1106.out 1).trans rfl, (blk_cell BK1106.out 2).trans rfl⟩ (fun hHeld => ?_)
    clear hK K
    refine norm_ (a' := ?_) ?_ ?_
    rotate_left
    ·show Act.put _ (some 60) _ = _
     simp only [Act.put, List.setIfInBounds_toArray, List.set_cons_zero, List.set_cons_succ, i64_w, i32_w]
     rfl
    refine one_ (i := 3) (N := some 61) #[true, true, true, true, false] rfl rfl (by kernel_rfl) (by decide) (fun K hK => ?_)
    refine goes_ Try.func21 (by kernel_rfl) rfl #[.agg #[.int .i64 t1123, .int .i64 t1124, .slice Ao41 t1125.length co41], .agg #[.int .i64 t1139, .int .i64 t1140, .slice Ao122 t1141.length co122]] (by rfl) rfl rfl zar3 ?_
    with_reducible refine (laws_eqBoard.calls kj21 t1123 t1124 _ _ t1125 t1139 t1140 _ _ t1141 false _ ?side1 ?side2 ?side3 ?side4 A55.out).mono ?_
    (case side1 => exact zar29)
    (case side2 => exact (Kd.R_reads' HO_1129002.out).2.1)
    (case side3 => exact zar30)
    (case side4 => exact (Kd.R_reads' HO1143.out).2.1)
    rintro e w123 ⟨rfl, hb⟩
    refine ⟨_, rfl, ?_⟩
    have n0_ := Aside0.mk (Kd.R_below zar10 hb)
    have n1_ := Aside0.mk (Kd.R_below zar12 hb)
    have n2_ := Aside0.mk (Kd.R_below zar9 hb)
    have n3_ := Aside0.mk (Kd.R_below zar8 hb)
    have n4_ := Aside0.mk (Kd.R_below zar19 hb)
    have n5_ := Aside0.mk (blk_below (g := gb1106) (o := .cells #[.int .i64 a0_0, .int .i64 a0_1, .slice A0_2 l0_2.length c0_2] 24 (0, 0)) zar2 hb)
    have n6_ := Aside0.mk (blk_below (g := gb1107) (o := .cells #[.int .i64 a1_0, .int .i64 a1_1] 26 (0, 0)) zar4 hb)
    have n7_ := Aside0.mk (blk_below (g := gb1128) (o := .cells #[.int .i64 t1123, .int .i64 t1124, .slice Ao41 t1125.length co41] 30 (0, 0)) zar7 hb)
    have n8_ := Aside0.mk (below_step zar1 hb)
    clear HO_8
    clear HO_11
    clear HO_12
    clear HO_1129002
    clear HO1143
    clear BK1106
    clear BK1107
    clear BK1128
    clear HB
    have HO_8 := n0_
    have HO_11 := n1_
    have HO_12 := n2_
    have HO_1129002 := n3_
    have HO1143 := n4_
    have BK1106 := n5_
    have BK1107 := n6_
    have BK1128 := n7_
    have HB := n8_
    clear n0_ n1_ n2_ n3_ n4_ n5_ n6_ n7_ n8_
    (try clear hb)
    (try clear hb2)
    (try clear hk)
    (try clear hi)
    (try clear hna_)
    (try clear hnb_)
    refine hK.out _ _ ⟨(blk_cell BK1128.out 0).trans rfl, (blk_cell BK1128.out 1).trans rfl, (blk_cell BK1128.out 2).trans rfl, (blk_cell BK1106.out 0).trans rfl, (blk_cell BK1106.out 1).trans rfl, (blk_cell BK1106.out 2).trans rfl⟩ (fun hHeld => ?_)
    clear hK K
    refine norm_ (a' := ?_) ?_ ?_
    rotate_left
    ·show Act.put _ (some 61) _ = _
     simp only [Act.put, List.setIfInBounds_toArray, List.set_cons_zero, List.set_cons_succ, i64_w, i32_w]
     rfl
    refine pure_ (i := 4) (N := some 62) (v := ?_) (a' := ?_) #[true, true, true, true, true] rfl rfl (by kernel_rfl) (fun _ _ _ h => h) (Or.inl ⟨by rfl, ?_⟩) ?_ ?_
    rotate_left
    ·intro w'
     go_simp
     with_reducible rfl
    rotate_left
    ·simp only [Act.put, List.setIfInBounds_toArray, List.set_cons_zero, List.set_cons_succ, i64_w, i32_w]
     rfl
    refine done_ (by kernel_rfl) ?_
    try go_wp2
    go_ret
    exact ⟨zar17, zar1⟩
   subst c56
   have H1 : ((laws_toIntS.f kj21 l2).bind fun t1145 => ((laws_eqIntS.f kj21 t1129 t1145).bind fun t1148 => (if t1148 = true then ((laws_markBoard.f kj21 t1123 t1124 t1125 1).bind fun bt1149 => ((laws_markIntS.f kj21 t1129 bt1149.1).bind fun bt1151 => (if bt1151.1 < 0 then (laws_FnExactColumnSumsOf.j1 kj21 l2 t1119 t1122 t1134 true a0_0 a0_1 l0_2 a1_0 a1_1) else ((laws_eqIntS.f kj21 t1134 t1119).bind fun t1153 => (if t1153 = true then (laws_FnExactColumnSumsOf.j1 kj21 l2 t1119 t1122 t1134 (t1137 != t1122) a0_0 a0_1 l0_2 a1_0 a1_1) else (laws_FnExactColumnSumsOf.j1 kj21 l2 t1119 t1122 t1134 true a0_0 a0_1 l0_2 a1_0 a1_1)))))) else (some false)))) = some r := by rw [if_pos rfl] at H; exact H
   clear H
   have H := H1
   clear H1
   replace H := Option.bind_eq_some_iff.mp H
   obtain ⟨t1145, A570, H⟩ := H
   replace H : ((laws_eqIntS.f kj21 t1129 t1145).bind fun t1148 => (if t1148 = true then ((laws_markBoard.f kj21 t1123 t1124 t1125 1).bind fun bt1149 => ((laws_markIntS.f kj21 t1129 bt1149.1).bind fun bt1151 => (if bt1151.1 < 0 then (laws_FnExactColumnSumsOf.j1 kj21 l2 t1119 t1122 t1134 true a0_0 a0_1 l0_2 a1_0 a1_1) else ((laws_eqIntS.f kj21 t1134 t1119).bind fun t1153 => (if t1153 = true then (laws_FnExactColumnSumsOf.j1 kj21 l2 t1119 t1122 t1134 (t1137 != t1122) a0_0 a0_1 l0_2 a1_0 a1_1) else (laws_FnExactColumnSumsOf.j1 kj21 l2 t1119 t1122 t1134 true a0_0 a0_1 l0_2 a1_0 a1_1)))))) else (some false))) = some r := H
   have A57 := Aside0.mk A570
   clear A570
   replace H := Option.bind_eq_some_iff.mp H
   obtain ⟨t1148, A580, H⟩ := H
   replace H : (if t1148 = true then ((laws_markBoard.f kj21 t1123 t1124 t1125 1).bind fun bt1149 => ((laws_markIntS.f kj21 t1129 bt1149.1).bind fun bt1151 => (if bt1151.1 < 0 then (laws_FnExactColumnSumsOf.j1 kj21 l2 t1119 t1122 t1134 true a0_0 a0_1 l0_2 a1_0 a1_1) else ((laws_eqIntS.f kj21 t1134 t1119).bind fun t1153 => (if t1153 = true then (laws_FnExactColumnSumsOf.j1 kj21 l2 t1119 t1122 t1134 (t1137 != t1122) a0_0 a0_1 l0_2 a1_0 a1_1) else (laws_FnExactColumnSumsOf.j1 kj21 l2 t1119 t1122 t1134 true a0_0 a0_1 l0_2 a1_0 a1_1)))))) else (some false)) = some r := H
   have A58 := Aside0.mk A580
   clear A580
   by_cases c59 : t1148 = true
   rotate_left
   ·replace c59 := Bool.eq_false_iff.mpr c59
    subst c59
    have H1 : (some false) = some r := by rw [if_neg (show ¬ (false = true) by decide)] at H; exact H
    clear H
    have H := H1
    clear H1
    obtain rfl := Option.some.inj H
    try go_wp2
    have n0_ := Aside0.mk (Kd.R_drew HO_8.out)
    have n1_ := Aside0.mk (Kd.R_drew HO_11.out)
    have n2_ := Aside0.mk (Kd.R_drew HO_12.out)
    have n3_ := Aside0.mk (Kd.R_drew HO_1129002.out)
    have n4_ := Aside0.mk (blk_drew BK1106.out)
    have n5_ := Aside0.mk (blk_drew BK1107.out)
    have n6_ := Aside0.mk (blk_drew BK1128.out)
    have n7_ := Aside0.mk (below_drew1 HB.out)
    clear HO_8
    clear HO_11
    clear HO_12
    clear HO_1129002
    clear BK1106
    clear BK1107
    clear BK1128
    clear HB
    have HO_8 := n0_
    have HO_11 := n1_
    have HO_12 := n2_
    have HO_1129002 := n3_
    have BK1106 := n4_
    have BK1107 := n5_
    have BK1128 := n6_
    have HB := n7_
    clear n0_ n1_ n2_ n3_ n4_ n5_ n6_ n7_
    refine start_ (n := 5) (S := fun w' => w'.cell? ⟨gb1128, 0, none⟩ = some (.int .i64 t1123) ∧ w'.cell? ⟨gb1128, 1, none⟩ = some (.int .i64 t1124) ∧ w'.cell? ⟨gb1128, 2, none⟩ = some (.slice Ao41 t1125.length co41) ∧ w'.cell? ⟨gb1106, 0, none⟩ = some (.int .i64 a0_0) ∧ w'.cell? ⟨gb1106, 1, none⟩ = some (.int .i64 a0_1) ∧ w'.cell? ⟨gb1106, 2, none⟩ = some (.slice A0_2 l0_2.length c0_2)) (ds := []) #[false, false, false, false, false] (by kernel_rfl) rfl rfl ⟨(blk_cell BK1128.out 0).trans rfl, (blk_cell BK1128.out 1).trans rfl, (blk_cell BK1128.out 2).trans rfl, (blk_cell BK1106.out 0).trans rfl, (blk_cell BK1106.out 1).trans rfl, (blk_cell BK1106.out 2).trans rfl⟩ (fun hHeld => ?_)
    generalize wc.drew = w114 at HO_8 HO_11 HO_12 HO_1129002 BK1106 BK1107 BK1128 HB hHeld ⊢
    refine take_ (i := 0) (N := some 58) (v := ?_) (a' := ?_) #[true, false, false, false, false] rfl rfl (by kernel_rfl) (fun _ _ _ h => h) (Or.inl ⟨by rfl, ?_⟩) hHeld ?_ ?_
    rotate_left
    ·rintro w' ⟨s0, s1, s2, s3, s4, s5⟩
     go_simp
     with_reducible rfl
    rotate_left
    ·simp only [Act.put, List.setIfInBounds_toArray, List.set_cons_zero, List.set_cons_succ, i64_w, i32_w]
     rfl
    refine take_ (i := 1) (N := some 59) (v := ?_) (a' := ?_) #[true, true, false, false, false] rfl rfl (by kernel_rfl) (fun _ _ _ h => h) (Or.inl ⟨by rfl, ?_⟩) hHeld ?_ ?_
    rotate_left
    ·rintro w' ⟨s0, s1, s2, s3, s4, s5⟩
     go_simp
     with_reducible rfl
    rotate_left
    ·simp only [Act.put, List.setIfInBounds_toArray, List.set_cons_zero, List.set_cons_succ, i64_w, i32_w]
     rfl
    refine one_ (i := 2) (N := some 60) #[true, true, true, false, false] rfl rfl (by kernel_rfl) (by decide) (fun K hK => ?_)
    refine goes_ Try.func17 (by kernel_rfl) rfl #[.agg #[.int .i64 a0_0, .int .i64 a0_1, .slice A0_2 l0_2.length c0_2]] (by rfl) rfl rfl zar3 ?_
    with_reducible refine (laws_toBoard.calls kj21 a0_0 a0_1 _ _ l0_2 t1139 t1140 t1141 _ ?side1 ?side2 A54.out).mono ?_
    (case side1 => exact zar13)
    (case side2 => exact HC0_2.out)
    rintro e w115 ⟨v1142, rfl, ho0, hb⟩
    refine ⟨_, rfl, ?_⟩
    have n0_ := Aside0.mk (Kd.R_elder' zar10 (Kd.R_base ho0) hb)
    have n1_ := Aside0.mk (Kd.R_elder' zar12 (Kd.R_base ho0) hb)
    have n2_ := Aside0.mk (Kd.R_elder' zar9 (Kd.R_base ho0) hb)
    have n3_ := Aside0.mk (Kd.R_elder' zar8 (Kd.R_base ho0) hb)
    have n4_ := Aside0.mk (Kd.R_lower (Kd.R_new' (Kd.R_new' (Kd.R_new' (Kd.R_new' ho0 (Kd.R_lt zar10)) (Kd.R_lt zar12)) (Kd.R_lt zar9)) (Kd.R_lt zar8)) (below_size zar1))
    have n5_ := Aside0.mk (blk_below (g := gb1106) (o := .cells #[.int .i64 a0_0, .int .i64 a0_1, .slice A0_2 l0_2.length c0_2] 24 (0, 0)) zar2 hb)
    have n6_ := Aside0.mk (blk_below (g := gb1107) (o := .cells #[.int .i64 a1_0, .int .i64 a1_1] 26 (0, 0)) zar4 hb)
    have n7_ := Aside0.mk (blk_below (g := gb1128) (o := .cells #[.int .i64 t1123, .int .i64 t1124, .slice Ao41 t1125.length co41] 30 (0, 0)) zar7 hb)
    have n8_ := Aside0.mk (below_step zar1 hb)
    clear HO_8
    clear HO_11
    clear HO_12
    clear HO_1129002
    clear BK1106
    clear BK1107
    clear BK1128
    clear HB
    have HO_8 := n0_
    have HO_11 := n1_
    have HO_12 := n2_
    have HO_1129002 := n3_
    have HO1143 := n4_
    have BK1106 := n5_
    have BK1107 := n6_
    have BK1128 := n7_
    have HB := n8_
    clear n0_ n1_ n2_ n3_ n4_ n5_ n6_ n7_ n8_
    (try clear hb)
    (try clear hb2)
    (try clear hk)
    (try clear hi)
    (try clear ho0)
    (try clear hna_)
    (try clear hnb_)
    obtain ⟨Ao116, co116, eo116⟩ := Kd.R_slice HO1143.out
    (first | subst eo116 | (injection eo116 with f1_ f2_ f3_; have f4_ := f1_.symm; have f5_ := f3_.symm; clear f1_ f2_ f3_; subst f4_; subst f5_))
    refine hK.out _ _ ⟨(blk_cell BK1128.out 0).trans rfl, (blk_cell BK1128.out 1).trans rfl, (blk_cell BK1128.out 2).trans rfl, (blk_cell BK1106.out 0).trans rfl, (blk_cell BK1106.out 1).trans rfl, (blk_cell BK1106.out 2).trans rfl⟩ (fun hHeld => ?_)
    clear hK K
    refine norm_ (a' := ?_) ?_ ?_
    rotate_left
    ·show Act.put _ (some 60) _ = _
     simp only [Act.put, List.setIfInBounds_toArray, List.set_cons_zero, List.set_cons_succ, i64_w, i32_w]
     rfl
    refine one_ (i := 3) (N := some 61) #[true, true, true, true, false] rfl rfl (by kernel_rfl) (by decide) (fun K hK => ?_)
    refine goes_ Try.func21 (by kernel_rfl) rfl #[.agg #[.int .i64 t1123, .int .i64 t1124, .slice Ao41 t1125.length co41], .agg #[.int .i64 t1139, .int .i64 t1140, .slice Ao116 t1141.length co116]] (by rfl) rfl rfl zar3 ?_
    with_reducible refine (laws_eqBoard.calls kj21 t1123 t1124 _ _ t1125 t1139 t1140 _ _ t1141 true _ ?side1 ?side2 ?side3 ?side4 A55.out).mono ?_
    (case side1 => exact zar29)
    (case side2 => exact (Kd.R_reads' HO_1129002.out).2.1)
    (case side3 => exact zar30)
    (case side4 => exact (Kd.R_reads' HO1143.out).2.1)
    rintro e w117 ⟨rfl, hb⟩
    refine ⟨_, rfl, ?_⟩
    have n0_ := Aside0.mk (Kd.R_below zar10 hb)
    have n1_ := Aside0.mk (Kd.R_below zar12 hb)
    have n2_ := Aside0.mk (Kd.R_below zar9 hb)
    have n3_ := Aside0.mk (Kd.R_below zar8 hb)
    have n4_ := Aside0.mk (Kd.R_below zar19 hb)
    have n5_ := Aside0.mk (blk_below (g := gb1106) (o := .cells #[.int .i64 a0_0, .int .i64 a0_1, .slice A0_2 l0_2.length c0_2] 24 (0, 0)) zar2 hb)
    have n6_ := Aside0.mk (blk_below (g := gb1107) (o := .cells #[.int .i64 a1_0, .int .i64 a1_1] 26 (0, 0)) zar4 hb)
    have n7_ := Aside0.mk (blk_below (g := gb1128) (o := .cells #[.int .i64 t1123, .int .i64 t1124, .slice Ao41 t1125.length co41] 30 (0, 0)) zar7 hb)
    have n8_ := Aside0.mk (below_step zar1 hb)
    clear HO_8
    clear HO_11
    clear HO_12
    clear HO_1129002
    clear HO1143
    clear BK1106
    clear BK1107
    clear BK1128
    clear HB
    have HO_8 := n0_
    have HO_11 := n1_
    have HO_12 := n2_
    have HO_1129002 := n3_
    have HO1143 := n4_
    have BK1106 := n5_
    have BK1107 := n6_
    have BK1128 := n7_
    have HB := n8_
    clear n0_ n1_ n2_ n3_ n4_ n5_ n6_ n7_ n8_
    (try clear hb)
    (try clear hb2)
    (try clear hk)
    (try clear hi)
    (try clear hna_)
    (try clear hnb_)
    refine hK.out _ _ ⟨(blk_cell BK1128.out 0).trans rfl, (blk_cell BK1128.out 1).trans rfl, (blk_cell BK1128.out 2).trans rfl, (blk_cell BK1106.out 0).trans rfl, (blk_cell BK1106.out 1).trans rfl, (blk_cell BK1106.out 2).trans rfl⟩ (fun hHeld => ?_)
    clear hK K
    refine norm_ (a' := ?_) ?_ ?_
    rotate_left
    ·show Act.put _ (some 61) _ = _
     simp only [Act.put, List.setIfInBounds_toArray, List.set_cons_zero, List.set_cons_succ, i64_w, i32_w]
     rfl
    refine pure_ (i := 4) (N := some 62) (v := ?_) (a' := ?_) #[true, true, true, true, true] rfl rfl (by kernel_rfl) (fun _ _ _ h => h) (Or.inl ⟨by rfl, ?_⟩) ?_ ?_
    rotate_left
    ·intro w'
     go_simp
     with_reducible rfl
    rotate_left
    ·simp only [Act.put, List.setIfInBounds_toArray, List.set_cons_zero, List.set_cons_succ, i64_w, i32_w]
     rfl
    refine done_ (by kernel_rfl) ?_
    try go_wp2_with (first | ((with_reducible refine gate_callee (f := 19) rfl ?_); refine goesL_ (some 65) rfl rfl Try.func19 (by kernel_rfl) rfl #[.slice A2 l2.length c2] rfl zar3 ?_; (with_reducible refine (laws_toIntS.calls kj21 _ _ l2 t1145 _ ?side1 ?side2 A57.out).mono ?_); (case side1 => exact zar21); (case side2 => exact HC2.out); rintro e w118 ⟨v1146, rfl, ho0, hb⟩; refine ⟨_, rfl, ?_⟩; have n0_ := Aside0.mk (Kd.R_elder' zar10 (Kd.R_base ho0) hb); have n1_ := Aside0.mk (Kd.R_elder' zar12 (Kd.R_base ho0) hb); have n2_ := Aside0.mk (Kd.R_elder' zar9 (Kd.R_base ho0) hb); have n3_ := Aside0.mk (Kd.R_elder' zar8 (Kd.R_base ho0) hb); have n4_ := Aside0.mk (Kd.R_elder' zar19 (Kd.R_base ho0) hb); have n5_ := Aside0.mk (Kd.R_lower (Kd.R_new' (Kd.R_new' (Kd.R_new' (Kd.R_new' (Kd.R_new' ho0 (Kd.R_lt zar10)) (Kd.R_lt zar12)) (Kd.R_lt zar9)) (Kd.R_lt zar8)) (Kd.R_lt zar19)) (below_size zar1)); have n6_ := Aside0.mk (blk_below (g := gb1106) (o := .cells #[.int .i64 a0_0, .int .i64 a0_1, .slice A0_2 l0_2.length c0_2] 24 (0, 0)) zar2 hb); have n7_ := Aside0.mk (blk_below (g := gb1107) (o := .cells #[.int .i64 a1_0, .int .i64 a1_1] 26 (0, 0)) zar4 hb); have n8_ := Aside0.mk (blk_below (g := gb1128) (o := .cells #[.int .i64 t1123, .int .i64 t1124, .slice Ao41 t1125.length co41] 30 (0, 0)) zar7 hb); have n9_ := Aside0.mk (below_step zar1 hb); clear HO_8; clear HO_11; clear HO_12; clear HO_1129002; clear HO1143; clear BK1106; clear BK1107; clear BK1128; clear HB; have HO_8 := n0_; have HO_11 := n1_; have HO_12 := n2_; have HO_1129002 := n3_; have HO1143 := n4_; have HO1147 := n5_; have BK1106 := n6_; have BK1107 := n7_; have BK1128 := n8_; have HB := n9_; clear n0_ n1_ n2_ n3_ n4_ n5_ n6_ n7_ n8_ n9_; (try clear hb); (try clear hb2); (try clear hk); (try clear hi); (try clear ho0); (try clear hna_); (try clear hnb_); obtain ⟨Ao119, co119, eo119⟩ := Kd.R_slice HO1147.out; subst eo119) | ((with_reducible refine gate_callee (f := 22) rfl ?_); refine goesL_ (some 66) rfl rfl Try.func22 (by kernel_rfl) rfl #[.slice Ao45 t1129.length co45, .slice Ao119 t1145.length co119] rfl zar3 ?_; (with_reducible refine (laws_eqIntS.calls kj21 _ _ t1129 _ _ t1145 false _ ?side1 ?side2 ?side3 ?side4 A58.out).mono ?_); (case side1 => exact zar48); (case side2 => exact (Kd.R_reads' HO_11.out).2.1); (case side3 => exact zar45); (case side4 => exact (Kd.R_reads' HO1147.out).2.1); rintro e w' ⟨rfl, ⟨nd, rfl⟩⟩; refine ⟨_, rfl, ?_⟩))
    go_ret
    exact ⟨zar17, zar1⟩
   subst c59
   have H1 : ((laws_markBoard.f kj21 t1123 t1124 t1125 1).bind fun bt1149 => ((laws_markIntS.f kj21 t1129 bt1149.1).bind fun bt1151 => (if bt1151.1 < 0 then (laws_FnExactColumnSumsOf.j1 kj21 l2 t1119 t1122 t1134 true a0_0 a0_1 l0_2 a1_0 a1_1) else ((laws_eqIntS.f kj21 t1134 t1119).bind fun t1153 => (if t1153 = true then (laws_FnExactColumnSumsOf.j1 kj21 l2 t1119 t1122 t1134 (t1137 != t1122) a0_0 a0_1 l0_2 a1_0 a1_1) else (laws_FnExactColumnSumsOf.j1 kj21 l2 t1119 t1122 t1134 true a0_0 a0_1 l0_2 a1_0 a1_1)))))) = some r := by rw [if_pos rfl] at H; exact H
   clear H
   have H := H1
   clear H1
   replace H := Option.bind_eq_some_iff.mp H
   obtain ⟨⟨t1149, t1150⟩, A600, H⟩ := H
   replace H : ((laws_markIntS.f kj21 t1129 t1149).bind fun bt1151 => (if bt1151.1 < 0 then (laws_FnExactColumnSumsOf.j1 kj21 l2 t1119 t1122 t1134 true a0_0 a0_1 l0_2 a1_0 a1_1) else ((laws_eqIntS.f kj21 t1134 t1119).bind fun t1153 => (if t1153 = true then (laws_FnExactColumnSumsOf.j1 kj21 l2 t1119 t1122 t1134 (t1137 != t1122) a0_0 a0_1 l0_2 a1_0 a1_1) else (laws_FnExactColumnSumsOf.j1 kj21 l2 t1119 t1122 t1134 true a0_0 a0_1 l0_2 a1_0 a1_1))))) = some r := H
   have A60 := Aside0.mk A600
   clear A600
   replace H := Option.bind_eq_some_iff.mp H
   obtain ⟨⟨t1151, t1152⟩, A610, H⟩ := H
   replace H : (if t1151 < 0 then (laws_FnExactColumnSumsOf.j1 kj21 l2 t1119 t1122 t1134 true a0_0 a0_1 l0_2 a1_0 a1_1) else ((laws_eqIntS.f kj21 t1134 t1119).bind fun t1153 => (if t1153 = true then (laws_FnExactColumnSumsOf.j1 kj21 l2 t1119 t1122 t1134 (t1137 != t1122) a0_0 a0_1 l0_2 a1_0 a1_1) else (laws_FnExactColumnSumsOf.j1 kj21 l2 t1119 t1122 t1134 true a0_0 a0_1 l0_2 a1_0 a1_1)))) = some r := H
   have A61 := Aside0.mk A610
   clear A610
   have HC62 := Aside0.mk H
   clear H
   try go_wp2
   have n0_ := Aside0.mk (Kd.R_drew HO_8.out)
   have n1_ := Aside0.mk (Kd.R_drew HO_11.out)
   have n2_ := Aside0.mk (Kd.R_drew HO_12.out)
   have n3_ := Aside0.mk (Kd.R_drew HO_1129002.out)
   have n4_ := Aside0.mk (blk_drew BK1106.out)
   have n5_ := Aside0.mk (blk_drew BK1107.out)
   have n6_ := Aside0.mk (blk_drew BK1128.out)
   have n7_ := Aside0.mk (below_drew1 HB.out)
   clear HO_8
   clear HO_11
   clear HO_12
   clear HO_1129002
   clear BK1106
   clear BK1107
   clear BK1128
   clear HB
   have HO_8 := n0_
   have HO_11 := n1_
   have HO_12 := n2_
   have HO_1129002 := n3_
   have BK1106 := n4_
   have BK1107 := n5_
   have BK1128 := n6_
   have HB := n7_
   clear n0_ n1_ n2_ n3_ n4_ n5_ n6_ n7_
   refine start_ (n := 5) (S := fun w' => w'.cell? ⟨gb1128, 0, none⟩ = some (.int .i64 t1123) ∧ w'.cell? ⟨gb1128, 1, none⟩ = some (.int .i64 t1124) ∧ w'.cell? ⟨gb1128, 2, none⟩ = some (.slice Ao41 t1125.length co41) ∧ w'.cell? ⟨gb1106, 0, none⟩ = some (.int .i64 a0_0) ∧ w'.cell? ⟨gb1106, 1, none⟩ = some (.int .i64 a0_1) ∧ w'.cell? ⟨gb1106, 2, none⟩ = some (.slice A0_2 l0_2.length c0_2)) (ds := []) #[false, false, false, false, false] (by kernel_rfl) rfl rfl ⟨(blk_cell BK1128.out 0).trans rfl, (blk_cell BK1128.out 1).trans rfl, (blk_cell BK1128.out 2).trans rfl, (blk_cell BK1106.out 0).trans rfl, (blk_cell BK1106.out 1).trans rfl, (blk_cell BK1106.out 2).trans rfl⟩ (fun hHeld => ?_)
   generalize wc.drew = w63 at HO_8 HO_11 HO_12 HO_1129002 BK1106 BK1107 BK1128 HB hHeld ⊢
   refine take_ (i := 0) (N := some 58) (v := ?_) (a' := ?_) #[true, false, false, false, false] rfl rfl (by kernel_rfl) (fun _ _ _ h => h) (Or.inl ⟨by rfl, ?_⟩) hHeld ?_ ?_
   rotate_left
   ·rintro w' ⟨s0, s1, s2, s3, s4, s5⟩
    go_simp
    with_reducible rfl
   rotate_left
   ·simp only [Act.put, List.setIfInBounds_toArray, List.set_cons_zero, List.set_cons_succ, i64_w, i32_w]
    rfl
   refine take_ (i := 1) (N := some 59) (v := ?_) (a' := ?_) #[true, true, false, false, false] rfl rfl (by kernel_rfl) (fun _ _ _ h => h) (Or.inl ⟨by rfl, ?_⟩) hHeld ?_ ?_
   rotate_left
   ·rintro w' ⟨s0, s1, s2, s3, s4, s5⟩
    go_simp
    with_reducible rfl
   rotate_left
   ·simp only [Act.put, List.setIfInBounds_toArray, List.set_cons_zero, List.set_cons_succ, i64_w, i32_w]
    rfl
   refine one_ (i := 2) (N := some 60) #[true, true, true, false, false] rfl rfl (by kernel_rfl) (by decide) (fun K hK => ?_)
   refine goes_ Try.func17 (by kernel_rfl) rfl #[.agg #[.int .i64 a0_0, .int .i64 a0_1, .slice A0_2 l0_2.length c0_2]] (by rfl) rfl rfl zar3 ?_
   with_reducible refine (laws_toBoard.calls kj21 a0_0 a0_1 _ _ l0_2 t1139 t1140 t1141 _ ?side1 ?side2 A54.out).mono ?_
   (case side1 => exact zar13)
   (case side2 => exact HC0_2.out)
   rintro e w64 ⟨v1142, rfl, ho0, hb⟩
   refine ⟨_, rfl, ?_⟩
   have n0_ := Aside0.mk (Kd.R_elder' zar10 (Kd.R_base ho0) hb)
   have n1_ := Aside0.mk (Kd.R_elder' zar12 (Kd.R_base ho0) hb)
   have n2_ := Aside0.mk (Kd.R_elder' zar9 (Kd.R_base ho0) hb)
   have n3_ := Aside0.mk (Kd.R_elder' zar8 (Kd.R_base ho0) hb)
   have n4_ := Aside0.mk (Kd.R_lower (Kd.R_new' (Kd.R_new' (Kd.R_new' (Kd.R_new' ho0 (Kd.R_lt zar10)) (Kd.R_lt zar12)) (Kd.R_lt zar9)) (Kd.R_lt zar8)) (below_size zar1))
   have n5_ := Aside0.mk (blk_below (g := gb1106) (o := .cells #[.int .i64 a0_0, .int .i64 a0_1, .slice A0_2 l0_2.length c0_2] 24 (0, 0)) zar2 hb)
   have n6_ := Aside0.mk (blk_below (g := gb1107) (o := .cells #[.int .i64 a1_0, .int .i64 a1_1] 26 (0, 0)) zar4 hb)
   have n7_ := Aside0.mk (blk_below (g := gb1128) (o := .cells #[.int .i64 t1123, .int .i64 t1124, .slice Ao41 t1125.length co41] 30 (0, 0)) zar7 hb)
   have n8_ := Aside0.mk (below_step zar1 hb)
   clear HO_8
   clear HO_11
   clear HO_12
   clear HO_1129002
   clear BK1106
   clear BK1107
   clear BK1128
   clear HB
   have HO_8 := n0_
   have HO_11 := n1_
   have HO_12 := n2_
   have HO_1129002 := n3_
   have HO1143 := n4_
   have BK1106 := n5_
   have BK1107 := n6_
   have BK1128 := n7_
   have HB := n8_
   clear n0_ n1_ n2_ n3_ n4_ n5_ n6_ n7_ n8_
   (try clear hb)
   (try clear hb2)
   (try clear hk)
   (try clear hi)
   (try clear ho0)
   (try clear hna_)
   (try clear hnb_)
   obtain ⟨Ao65, co65, eo65⟩ := Kd.R_slice HO1143.out
   (first | subst eo65 | (injection eo65 with f1_ f2_ f3_; have f4_ := f1_.symm; have f5_ := f3_.symm; clear f1_ f2_ f3_; subst f4_; subst f5_))
   refine hK.out _ _ ⟨(blk_cell BK1128.out 0).trans rfl, (blk_cell BK1128.out 1).trans rfl, (blk_cell BK1128.out 2).trans rfl, (blk_cell BK1106.out 0).trans rfl, (blk_cell BK1106.out 1).trans rfl, (blk_cell BK1106.out 2).trans rfl⟩ (fun hHeld => ?_)
   clear hK K
   refine norm_ (a' := ?_) ?_ ?_
   rotate_left
   ·show Act.put _ (some 60) _ = _
    simp only [Act.put, List.setIfInBounds_toArray, List.set_cons_zero, List.set_cons_succ, i64_w, i32_w]
    rfl
   refine one_ (i := 3) (N := some 61) #[true, true, true, true, false] rfl rfl (by kernel_rfl) (by decide) (fun K hK => ?_)
   refine goes_ Try.func21 (by kernel_rfl) rfl #[.agg #[.int .i64 t1123, .int .i64 t1124, .slice Ao41 t1125.length co41], .agg #[.int .i64 t1139, .int .i64 t1140, .slice Ao65 t1141.length co65]] (by rfl) rfl rfl zar3 ?_
   with_reducible refine (laws_eqBoard.calls kj21 t1123 t1124 _ _ t1125 t1139 t1140 _ _ t1141 true _ ?side1 ?side2 ?side3 ?side4 A55.out).mono ?_
   (case side1 => exact zar29)
   (case side2 => exact (Kd.R_reads' HO_1129002.out).2.1)
   (case side3 => exact zar30)
   (case side4 => exact (Kd.R_reads' HO1143.out).2.1)
   rintro e w66 ⟨rfl, hb⟩
   refine ⟨_, rfl, ?_⟩
   have n0_ := Aside0.mk (Kd.R_below zar10 hb)
   have n1_ := Aside0.mk (Kd.R_below zar12 hb)
   have n2_ := Aside0.mk (Kd.R_below zar9 hb)
   have n3_ := Aside0.mk (Kd.R_below zar8 hb)
   have n4_ := Aside0.mk (Kd.R_below zar19 hb)
   have n5_ := Aside0.mk (blk_below (g := gb1106) (o := .cells #[.int .i64 a0_0, .int .i64 a0_1, .slice A0_2 l0_2.length c0_2] 24 (0, 0)) zar2 hb)
   have n6_ := Aside0.mk (blk_below (g := gb1107) (o := .cells #[.int .i64 a1_0, .int .i64 a1_1] 26 (0, 0)) zar4 hb)
   have n7_ := Aside0.mk (blk_below (g := gb1128) (o := .cells #[.int .i64 t1123, .int .i64 t1124, .slice Ao41 t1125.length co41] 30 (0, 0)) zar7 hb)
   have n8_ := Aside0.mk (below_step zar1 hb)
   clear HO_8
   clear HO_11
   clear HO_12
   clear HO_1129002
   clear HO1143
   clear BK1106
   clear BK1107
   clear BK1128
   clear HB
   have HO_8 := n0_
   have HO_11 := n1_
   have HO_12 := n2_
   have HO_1129002 := n3_
   have HO1143 := n4_
   have BK1106 := n5_
   have BK1107 := n6_
   have BK1128 := n7_
   have HB := n8_
   clear n0_ n1_ n2_ n3_ n4_ n5_ n6_ n7_ n8_
   (try clear hb)
   (try clear hb2)
   (try clear hk)
   (try clear hi)
   (try clear hna_)
   (try clear hnb_)
   refine hK.out _ _ ⟨(blk_cell BK1128.out 0).trans rfl, (blk_cell BK1128.out 1).trans rfl, (blk_cell BK1128.out 2).trans rfl, (blk_cell BK1106.out 0).trans rfl, (blk_cell BK1106.out 1).trans rfl, (blk_cell BK1106.out 2).trans rfl⟩ (fun hHeld => ?_)
   clear hK K
   refine norm_ (a' := ?_) ?_ ?_
   rotate_left
   ·show Act.put _ (some 61) _ = _
    simp only [Act.put, List.setIfInBounds_toArray, List.set_cons_zero, List.set_cons_succ, i64_w, i32_w]
    rfl
   refine pure_ (i := 4) (N := some 62) (v := ?_) (a' := ?_) #[true, true, true, true, true] rfl rfl (by kernel_rfl) (fun _ _ _ h => h) (Or.inl ⟨by rfl, ?_⟩) ?_ ?_
   rotate_left
   ·intro w'
    go_simp
    with_reducible rfl
   rotate_left
   ·simp only [Act.put, List.setIfInBounds_toArray, List.set_cons_zero, List.set_cons_succ, i64_w, i32_w]
    rfl
   refine done_ (by kernel_rfl) ?_
   go_upto_region 20 with (first | ((with_reducible refine gate_callee (f := 19) rfl ?_); refine goesL_ (some 65) rfl rfl Try.func19 (by kernel_rfl) rfl #[.slice A2 l2.length c2] rfl zar3 ?_; (with_reducible refine (laws_toIntS.calls kj21 _ _ l2 t1145 _ ?side1 ?side2 A57.out).mono ?_); (case side1 => exact zar21); (case side2 => exact HC2.out); rintro e w67 ⟨v1146, rfl, ho0, hb⟩; refine ⟨_, rfl, ?_⟩; have n0_ := Aside0.mk (Kd.R_elder' zar10 (Kd.R_base ho0) hb); have n1_ := Aside0.mk (Kd.R_elder' zar12 (Kd.R_base ho0) hb); have n2_ := Aside0.mk (Kd.R_elder' zar9 (Kd.R_base ho0) hb); have n3_ := Aside0.mk (Kd.R_elder' zar8 (Kd.R_base ho0) hb); have n4_ := Aside0.mk (Kd.R_elder' zar19 (Kd.R_base ho0) hb); have n5_ := Aside0.mk (Kd.R_lower (Kd.R_new' (Kd.R_new' (Kd.R_new' (Kd.R_new' (Kd.R_new' ho0 (Kd.R_lt zar10)) (Kd.R_lt zar12)) (Kd.R_lt zar9)) (Kd.R_lt zar8)) (Kd.R_lt zar19)) (below_size zar1)); have n6_ := Aside0.mk (blk_below (g := gb1106) (o := .cells #[.int .i64 a0_0, .int .i64 a0_1, .slice A0_2 l0_2.length c0_2] 24 (0, 0)) zar2 hb); have n7_ := Aside0.mk (blk_below (g := gb1107) (o := .cells #[.int .i64 a1_0, .int .i64 a1_1] 26 (0, 0)) zar4 hb); have n8_ := Aside0.mk (blk_below (g := gb1128) (o := .cells #[.int .i64 t1123, .int .i64 t1124, .slice Ao41 t1125.length co41] 30 (0, 0)) zar7 hb); have n9_ := Aside0.mk (below_step zar1 hb); clear HO_8; clear HO_11; clear HO_12; clear HO_1129002; clear HO1143; clear BK1106; clear BK1107; clear BK1128; clear HB; have HO_8 := n0_; have HO_11 := n1_; have HO_12 := n2_; have HO_1129002 := n3_; have HO1143 := n4_; have HO1147 := n5_; have BK1106 := n6_; have BK1107 := n7_; have BK1128 := n8_; have HB := n9_; clear n0_ n1_ n2_ n3_ n4_ n5_ n6_ n7_ n8_ n9_; (try clear hb); (try clear hb2); (try clear hk); (try clear hi); (try clear ho0); (try clear hna_); (try clear hnb_); obtain ⟨Ao68, co68, eo68⟩ := Kd.R_slice HO1147.out; subst eo68) | ((with_reducible refine gate_callee (f := 22) rfl ?_); refine goesL_ (some 66) rfl rfl Try.func22 (by kernel_rfl) rfl #[.slice Ao45 t1129.length co45, .slice Ao68 t1145.length co68] rfl zar3 ?_; (with_reducible refine (laws_eqIntS.calls kj21 _ _ t1129 _ _ t1145 true _ ?side1 ?side2 ?side3 ?side4 A58.out).mono ?_); (case side1 => exact zar48); (case side2 => exact (Kd.R_reads' HO_11.out).2.1); (case side3 => exact zar45); (case side4 => exact (Kd.R_reads' HO1147.out).2.1); rintro e w' ⟨rfl, ⟨nd, rfl⟩⟩; refine ⟨_, rfl, ?_⟩; have hnb69 := NB1128_1106.out; have hnc69 := NB1106_1128.out; have hnb70 := NB1128_1107.out; have hnc70 := NB1107_1128.out; have hcz71_0 : w67.cell? ⟨gb1128, 0, none⟩ = some (.int .i64 t1123) := (blk_cell BK1128.out 0).trans rfl; have hcz71_1 : w67.cell? ⟨gb1128, 1, none⟩ = some (.int .i64 t1124) := (blk_cell BK1128.out 1).trans rfl; have hcz71_2 : w67.cell? ⟨gb1128, 2, none⟩ = some (.slice Ao41 t1125.length co41) := (blk_cell BK1128.out 2).trans rfl; have hfz71_0 := blk_frozen BK1128.out 0; have hfz71_1 := blk_frozen BK1128.out 1; have hfz71_2 := blk_frozen BK1128.out 2) | ((with_reducible refine gate_callee (f := 31) rfl ?_); refine goesL_ (some 70) rfl rfl Try.func31 (by kernel_rfl) rfl #[.agg #[.int .i64 t1123, .int .i64 t1124, .slice Ao41 t1125.length co41], .int .i64 1] rfl zar3 ?_; (with_reducible refine (laws_markBoard.calls kj21 t1123 t1124 (fun k_ => some k_ = (.slice Ao41 t1125.length co41 : Value).ownBlock) (.slice Ao41 t1125.length co41) t1125 1 t1149 t1150 w _ ?side1 ?side2 A60.out).mono ?_); (case side1 => exact zar1); (case side2 => exact Kd.R_tight rfl HO_1129002.out); rintro e w72 ⟨rfl, hy0, hb, hkp⟩; refine ⟨_, rfl, ?_⟩; have n0_ := Aside0.mk (Kd.R_mono (ok' := fun k_ => some k_ ≠ (.slice Ao45 t1129.length co45 : Value).ownBlock ∧ some k_ ≠ (v1135 : Value).ownBlock ∧ some k_ ≠ (.slice Ao41 t1125.length co41 : Value).ownBlock ∧ some k_ ≠ (.slice Ao65 t1141.length co65 : Value).ownBlock ∧ some k_ ≠ (.slice Ao68 t1145.length co68 : Value).ownBlock) (Kd.R_keptB (HO_8.out) hkp (fun k_ hk_ hs_ => (hk_.1.1.2.2) hs_)) (fun k_ hk_ => ⟨hk_.1.1.1.1, hk_.1.1.1.2.1, hk_.1.1.1.2.2, hk_.1.1.2, hk_.1.2⟩)); have n1_ := Aside0.mk (Kd.R_mono (ok' := fun k_ => some k_ ≠ (v1120 : Value).ownBlock ∧ some k_ ≠ (v1135 : Value).ownBlock ∧ some k_ ≠ (.slice Ao41 t1125.length co41 : Value).ownBlock ∧ some k_ ≠ (.slice Ao65 t1141.length co65 : Value).ownBlock ∧ some k_ ≠ (.slice Ao68 t1145.length co68 : Value).ownBlock) (Kd.R_keptB (HO_11.out) hkp (fun k_ hk_ hs_ => (hk_.1.1.2.2) hs_)) (fun k_ hk_ => ⟨hk_.1.1.1.1, hk_.1.1.1.2.1, hk_.1.1.1.2.2, hk_.1.1.2, hk_.1.2⟩)); have n2_ := Aside0.mk (Kd.R_mono (ok' := fun k_ => some k_ ≠ (v1120 : Value).ownBlock ∧ some k_ ≠ (.slice Ao45 t1129.length co45 : Value).ownBlock ∧ some k_ ≠ (.slice Ao41 t1125.length co41 : Value).ownBlock ∧ some k_ ≠ (.slice Ao65 t1141.length co65 : Value).ownBlock ∧ some k_ ≠ (.slice Ao68 t1145.length co68 : Value).ownBlock) (Kd.R_keptB (HO_12.out) hkp (fun k_ hk_ hs_ => (hk_.1.1.2.2) hs_)) (fun k_ hk_ => ⟨hk_.1.1.1.1, hk_.1.1.1.2.1, hk_.1.1.1.2.2, hk_.1.1.2, hk_.1.2⟩)); have n3_ := Aside0.mk (Kd.R_reok rfl hy0 (fun k_ e_ => HO_1129002.out.1 k_ e_)); have n4_ := Aside0.mk (blk_kept zar2 hkp (fun hs_ => (fun e_ => (Kd.R_ne HO_1129002.out BK1106.out (by decide)) e_) hs_)); have n5_ := Aside0.mk (blk_kept zar4 hkp (fun hs_ => (fun e_ => (Kd.R_ne HO_1129002.out BK1107.out (by decide)) e_) hs_)); have n6_ := Aside0.mk (blk_kept zar7 hkp (fun hs_ => (fun e_ => (Kd.R_ne HO_1129002.out BK1128.out (by decide)) e_) hs_)); have n7_ := Aside0.mk (Kd.R_mono (ok' := fun k_ => some k_ ≠ (v1120 : Value).ownBlock ∧ some k_ ≠ (.slice Ao45 t1129.length co45 : Value).ownBlock ∧ some k_ ≠ (v1135 : Value).ownBlock ∧ some k_ ≠ (.slice Ao41 t1125.length co41 : Value).ownBlock ∧ some k_ ≠ (.slice Ao68 t1145.length co68 : Value).ownBlock) (Kd.R_keptB (HO1143.out) hkp (fun k_ hk_ hs_ => (hk_.1.2) hs_)) (fun k_ hk_ => ⟨hk_.1.1.1.1.1.2, hk_.1.1.1.1.2, hk_.1.1.1.2, hk_.1.1.2, hk_.1.2⟩)); have n8_ := Aside0.mk (Kd.R_mono (ok' := fun k_ => some k_ ≠ (v1120 : Value).ownBlock ∧ some k_ ≠ (.slice Ao45 t1129.length co45 : Value).ownBlock ∧ some k_ ≠ (v1135 : Value).ownBlock ∧ some k_ ≠ (.slice Ao41 t1125.length co41 : Value).ownBlock ∧ some k_ ≠ (.slice Ao65 t1141.length co65 : Value).ownBlock) (Kd.R_keptB (HO1147.out) hkp (fun k_ hk_ hs_ => (hk_.1.2) hs_)) (fun k_ hk_ => ⟨hk_.1.1.1.1.1.2, hk_.1.1.1.1.2, hk_.1.1.1.2, hk_.1.1.2, hk_.1.2⟩)); have n9_ := Aside0.mk (hb); clear HO_8; clear HO_11; clear HO_12; clear HO_1129002; clear BK1106; clear BK1107; clear BK1128; clear HO1143; clear HO1147; clear HB; have HO_8 := n0_; have HO_11 := n1_; have HO_12 := n2_; have HO_1129002 := n3_; have BK1106 := n4_; have BK1107 := n5_; have BK1128 := n6_; have HO1143 := n7_; have HO1147 := n8_; have HB := n9_; clear n0_ n1_ n2_ n3_ n4_ n5_ n6_ n7_ n8_ n9_; (try clear hb); (try clear hkp); (try clear hy0)) | ((with_reducible refine gate_callee (f := 32) rfl ?_); refine goesL_ (some 73) rfl rfl Try.func32 (by kernel_rfl) rfl #[.slice Ao45 t1129.length co45, .int .i64 t1149] rfl zar3 ?_; (with_reducible refine (laws_markIntS.calls kj21 (fun k_ => some k_ = (.slice Ao45 t1129.length co45 : Value).ownBlock) (.slice Ao45 t1129.length co45) t1129 t1149 t1151 t1152 w _ ?side1 ?side2 A61.out).mono ?_); (case side1 => exact zar1); (case side2 => exact Kd.R_tight rfl HO_11.out); rintro e w73 ⟨rfl, hy0, hb, hkp⟩; refine ⟨_, rfl, ?_⟩; have n0_ := Aside0.mk (Kd.R_mono (ok' := fun k_ => some k_ ≠ (.slice Ao45 t1129.length co45 : Value).ownBlock ∧ some k_ ≠ (v1135 : Value).ownBlock ∧ some k_ ≠ (.slice Ao41 t1125.length co41 : Value).ownBlock ∧ some k_ ≠ (.slice Ao65 t1141.length co65 : Value).ownBlock ∧ some k_ ≠ (.slice Ao68 t1145.length co68 : Value).ownBlock) (Kd.R_keptB (HO_8.out) hkp (fun k_ hk_ hs_ => (hk_.1) hs_)) (fun k_ hk_ => ⟨hk_.1.1, hk_.1.2.1, hk_.1.2.2.1, hk_.1.2.2.2.1, hk_.1.2.2.2.2⟩)); have n1_ := Aside0.mk (Kd.R_reok rfl hy0 (fun k_ e_ => HO_11.out.1 k_ e_)); have n2_ := Aside0.mk (Kd.R_mono (ok' := fun k_ => some k_ ≠ (v1120 : Value).ownBlock ∧ some k_ ≠ (.slice Ao45 t1129.length co45 : Value).ownBlock ∧ some k_ ≠ (.slice Ao41 t1125.length co41 : Value).ownBlock ∧ some k_ ≠ (.slice Ao65 t1141.length co65 : Value).ownBlock ∧ some k_ ≠ (.slice Ao68 t1145.length co68 : Value).ownBlock) (Kd.R_keptB (HO_12.out) hkp (fun k_ hk_ hs_ => (hk_.2.1) hs_)) (fun k_ hk_ => ⟨hk_.1.1, hk_.1.2.1, hk_.1.2.2.1, hk_.1.2.2.2.1, hk_.1.2.2.2.2⟩)); have n3_ := Aside0.mk (Kd.R_mono (ok' := fun k_ => some k_ ≠ (v1120 : Value).ownBlock ∧ some k_ ≠ (.slice Ao45 t1129.length co45 : Value).ownBlock ∧ some k_ ≠ (v1135 : Value).ownBlock ∧ some k_ ≠ (.slice Ao65 t1141.length co65 : Value).ownBlock ∧ some k_ ≠ (.slice Ao68 t1145.length co68 : Value).ownBlock) (Kd.R_keptB (HO_1129002.out) hkp (fun k_ hk_ hs_ => (hk_.1.1.2.1) hs_)) (fun k_ hk_ => ⟨hk_.1.1.1.1, hk_.1.1.1.2.1, hk_.1.1.1.2.2, hk_.1.1.2, hk_.1.2⟩)); have n4_ := Aside0.mk (blk_kept zar2 hkp (fun hs_ => (fun e_ => (Kd.R_ne HO_11.out BK1106.out (by decide)) e_) hs_)); have n5_ := Aside0.mk (blk_kept zar4 hkp (fun hs_ => (fun e_ => (Kd.R_ne HO_11.out BK1107.out (by decide)) e_) hs_)); have n6_ := Aside0.mk (blk_kept zar7 hkp (fun hs_ => (fun e_ => (Kd.R_ne HO_11.out BK1128.out (by decide)) e_) hs_)); have n7_ := Aside0.mk (Kd.R_mono (ok' := fun k_ => some k_ ≠ (v1120 : Value).ownBlock ∧ some k_ ≠ (.slice Ao45 t1129.length co45 : Value).ownBlock ∧ some k_ ≠ (v1135 : Value).ownBlock ∧ some k_ ≠ (.slice Ao41 t1125.length co41 : Value).ownBlock ∧ some k_ ≠ (.slice Ao68 t1145.length co68 : Value).ownBlock) (Kd.R_keptB (HO1143.out) hkp (fun k_ hk_ hs_ => (hk_.2.1) hs_)) (fun k_ hk_ => ⟨hk_.1.1, hk_.1.2.1, hk_.1.2.2.1, hk_.1.2.2.2.1, hk_.1.2.2.2.2⟩)); have n8_ := Aside0.mk (Kd.R_mono (ok' := fun k_ => some k_ ≠ (v1120 : Value).ownBlock ∧ some k_ ≠ (.slice Ao45 t1129.length co45 : Value).ownBlock ∧ some k_ ≠ (v1135 : Value).ownBlock ∧ some k_ ≠ (.slice Ao41 t1125.length co41 : Value).ownBlock ∧ some k_ ≠ (.slice Ao65 t1141.length co65 : Value).ownBlock) (Kd.R_keptB (HO1147.out) hkp (fun k_ hk_ hs_ => (hk_.2.1) hs_)) (fun k_ hk_ => ⟨hk_.1.1, hk_.1.2.1, hk_.1.2.2.1, hk_.1.2.2.2.1, hk_.1.2.2.2.2⟩)); have n9_ := Aside0.mk (hb); clear HO_8; clear HO_11; clear HO_12; clear HO_1129002; clear BK1106; clear BK1107; clear BK1128; clear HO1143; clear HO1147; clear HB; have HO_8 := n0_; have HO_11 := n1_; have HO_12 := n2_; have HO_1129002 := n3_; have BK1106 := n4_; have BK1107 := n5_; have BK1128 := n6_; have HO1143 := n7_; have HO1147 := n8_; have HB := n9_; clear n0_ n1_ n2_ n3_ n4_ n5_ n6_ n7_ n8_ n9_; (try clear hb); (try clear hkp); (try clear hy0)))
   (try simp only [Act.put, List.setIfInBounds_toArray, List.set_cons_zero, List.set_cons_succ])
   go_cut [86] (fun v86 wc => ∃ (kq : Nat) (x86_61 : Bool), v86 = .bool x86_61 ∧ Aside0 (laws_FnExactColumnSumsOf.j1 kq l2 t1119 t1122 t1134 x86_61 a0_0 a0_1 l0_2 a1_0 a1_1 = some r) ∧ Aside0 (kq ≤ kj21) ∧ Aside0 (Kd.R (Kd.int .i64) 3 wc w.heap.size (fun k_ => some k_ ≠ (v1135 : Value).ownBlock ∧ some k_ ≠ ((.slice Ao41 t1125.length co41) : Value).ownBlock) v1120 t1119) ∧ Aside0 (Kd.R (Kd.int .i64) 3 wc w.heap.size (fun k_ => some k_ ≠ (v1120 : Value).ownBlock ∧ some k_ ≠ ((.slice Ao41 t1125.length co41) : Value).ownBlock) v1135 t1134) ∧ Aside0 (Kd.R (Kd.int .i64) 3 wc w.heap.size (fun k_ => some k_ ≠ (v1120 : Value).ownBlock ∧ some k_ ≠ (v1135 : Value).ownBlock) (.slice Ao41 t1125.length co41) t1150) ∧ Aside0 (wc.heap[gb1106]? = some (.cells #[.int .i64 a0_0, .int .i64 a0_1, (.slice A0_2 l0_2.length c0_2)] 24 (0, 0))) ∧ Aside0 (wc.heap[gb1107]? = some (.cells #[.int .i64 a1_0, .int .i64 a1_1] 26 (0, 0))) ∧ Aside0 (wc.heap[gb1128]? = some (.cells #[.int .i64 t1123, .int .i64 t1124, (.slice Ao41 t1125.length co41)] 30 (0, 0))) ∧ Aside0 (Below w.heap.size w wc))
   case first =>
    have H := HC62.out
    clear HC62
    by_cases c74 : t1151 < 0
    ·rw [if_pos c74] at H
     have c74b0 : decide (t1151 < 0) = true := decide_eq_true c74
     clear c74
     (first | rw [c74b0] | (simp only [i64_w, i32_w]; rw [c74b0]) | skip)
     have H' := Aside0.mk H
     clear H
     go_wp2
     go_meet
     case rel => exact ⟨_, (true), zar35, H', ⟨by have := HJ21.out; first | omega | exact Nat.le_refl _⟩, ⟨zar33⟩, ⟨zar34⟩, ⟨zar32⟩, ⟨zar2⟩, ⟨zar4⟩, ⟨zar7⟩, ⟨zar1⟩⟩
    rw [if_neg c74] at H
    have c74b0 : decide (t1151 < 0) = false := decide_eq_false c74
    clear c74
    (first | rw [c74b0] | (simp only [i64_w, i32_w]; rw [c74b0]) | skip)
    replace H := Option.bind_eq_some_iff.mp H
    obtain ⟨t1153, A750, H⟩ := H
    replace H : (if t1153 = true then (laws_FnExactColumnSumsOf.j1 kj21 l2 t1119 t1122 t1134 (t1137 != t1122) a0_0 a0_1 l0_2 a1_0 a1_1) else (laws_FnExactColumnSumsOf.j1 kj21 l2 t1119 t1122 t1134 true a0_0 a0_1 l0_2 a1_0 a1_1)) = some r := H
    have A75 := Aside0.mk A750
    clear A750
    by_cases c76 : t1153 = true
    ·subst c76
     have H1 : (laws_FnExactColumnSumsOf.j1 kj21 l2 t1119 t1122 t1134 (t1137 != t1122) a0_0 a0_1 l0_2 a1_0 a1_1) = some r := by rw [if_pos rfl] at H; exact H
     clear H
     have H := H1
     clear H1
     have H' := Aside0.mk H
     clear H
     obtain ⟨Ao77, co77, eo77⟩ := Kd.R_slice HO_12.out
     subst eo77
     obtain ⟨Ao78, co78, eo78⟩ := Kd.R_slice HO_8.out
     subst eo78
     go_wp2_with (first | (go_at_call 22; (with_reducible refine (laws_eqIntS.calls kj21 _ _ t1134 _ _ t1119 true _ ?side1 ?side2 ?side3 ?side4 A75.out).mono ?_); (case side1 => exact zar14); (case side2 => exact (Kd.R_reads' HO_12.out).2.1); (case side3 => exact zar22); (case side4 => exact (Kd.R_reads' HO_8.out).2.1); rintro e w' ⟨rfl, ⟨nd, rfl⟩⟩))
     go_meet
     case rel => exact ⟨_, ((t1137 != t1122)), zar35, H', ⟨by have := HJ21.out; first | omega | exact Nat.le_refl _⟩, ⟨zar33⟩, ⟨zar34⟩, ⟨zar32⟩, ⟨zar2⟩, ⟨zar4⟩, ⟨zar7⟩, ⟨zar1⟩⟩
    replace c76 := Bool.eq_false_iff.mpr c76
    subst c76
    have H1 : (laws_FnExactColumnSumsOf.j1 kj21 l2 t1119 t1122 t1134 true a0_0 a0_1 l0_2 a1_0 a1_1) = some r := by rw [if_neg (show ¬ (false = true) by decide)] at H; exact H
    clear H
    have H := H1
    clear H1
    have H' := Aside0.mk H
    clear H
    obtain ⟨Ao79, co79, eo79⟩ := Kd.R_slice HO_12.out
    subst eo79
    obtain ⟨Ao80, co80, eo80⟩ := Kd.R_slice HO_8.out
    subst eo80
    go_wp2_with (first | (go_at_call 22; (with_reducible refine (laws_eqIntS.calls kj21 _ _ t1134 _ _ t1119 false _ ?side1 ?side2 ?side3 ?side4 A75.out).mono ?_); (case side1 => exact zar14); (case side2 => exact (Kd.R_reads' HO_12.out).2.1); (case side3 => exact zar22); (case side4 => exact (Kd.R_reads' HO_8.out).2.1); rintro e w' ⟨rfl, ⟨nd, rfl⟩⟩))
    go_meet
    case rel => exact ⟨_, (true), zar35, H', ⟨by have := HJ21.out; first | omega | exact Nat.le_refl _⟩, ⟨zar33⟩, ⟨zar34⟩, ⟨zar32⟩, ⟨zar2⟩, ⟨zar4⟩, ⟨zar7⟩, ⟨zar1⟩⟩
   case rest =>
    clear HC62
    try clear c1; try clear c2; try clear p2; try clear c3; try clear c4; try clear c4b0; try clear c4b1; try clear c5; try clear c6; try clear c7; try clear c8; try clear c8b0; try clear c11; try clear c12; try clear c15; try clear c17; try clear c18; try clear c19; try clear c21; try clear c22; try clear c25; try clear c31; try clear c32; try clear c38; try clear c39; try clear c42; try clear c43; try clear c48; try clear c53; try clear c56; try clear c59; try clear c69; try clear c70; try clear c74; try clear c74b0; try clear c76; try clear hcz12_0; try clear hcz12_1; try clear hcz12_2; try clear hcz26_0
    try clear hcz26_1; try clear hcz26_2; try clear hcz35_0; try clear hcz35_1; try clear hcz35_2; try clear hcz40_0; try clear hcz40_1; try clear hcz40_2; try clear hcz71_0; try clear hcz71_1; try clear hcz71_2; try clear hfz12_0; try clear hfz12_1; try clear hfz12_2; try clear hfz26_0; try clear hfz26_1; try clear hfz26_2; try clear hfz35_0; try clear hfz35_1; try clear hfz35_2; try clear hfz40_0; try clear hfz40_1; try clear hfz40_2; try clear hfz71_0; try clear hfz71_1; try clear hfz71_2; try clear p2
    obtain ⟨kq, x86_61, rfl, HA, HJ61, HO_8, HO_12, HO_1129002, BK1106, BK1107, BK1128, HB⟩ := hcut
    have hl1129002_61 := (Kd.R_reads' HO_1129002.out).1
    rw [hl1129002_61] at HO_1129002
    (try simp only [hl1129002_61])
    (try simp only [hl1129002_61] at BK1106)
    (try simp only [hl1129002_61] at BK1107)
    (try simp only [hl1129002_61] at BK1128)
    (try simp only [hl1129002_61] at HO_8)
    (try simp only [hl1129002_61] at HO_12)
    cases kq with
    | zero => exact absurd HA.out (by simp [laws_FnExactColumnSumsOf.j1])
    | succ kj61 =>
     have H := HA.out
     clear HA
     simp only [laws_FnExactColumnSumsOf.j1] at H
     by_cases c81 : x86_61 = true
     ·subst c81
      have H1 : (some false) = some r := by rw [if_pos rfl] at H; exact H
      clear H
      have H := H1
      clear H1
      obtain rfl := Option.some.inj H
      go_wp2
      go_ret
      exact ⟨zar17, zar1⟩
     replace c81 := Bool.eq_false_iff.mpr c81
     subst c81
     have H1 : ((laws_markIntS.f kj61 t1134 1).bind fun bt1154 => ((laws_heldIntS.f kj61 bt1154.2 1).bind fun t1156 => (if t1156 < 0 then (some false) else (if t1156 = bt1154.1 then ((laws_toBoard.f kj61 a0_0 a0_1 l0_2).bind fun bt1157 => ((laws_toLeaper.f a1_0 a1_1).bind fun bt1162 => ((laws_toIntS.f kj61 l2).bind fun t1164 => ((impl_ColumnSumsOf.f kj61 bt1157.1 bt1157.2.1 bt1157.2.2 bt1162.1 bt1162.2 t1164).bind fun bt1167 => ((laws_eqIntS.f kj61 bt1167.1 t1119).bind fun t1171 => (if t1171 = true then (laws_FnExactColumnSumsOf.j2 kj61 bt1154.2 bt1154.1 (bt1167.2 != t1122)) else (laws_FnExactColumnSumsOf.j2 kj61 bt1154.2 bt1154.1 true))))))) else (some false))))) = some r := by rw [if_neg (show ¬ (false = true) by decide)] at H; exact H
     clear H
     have H := H1
     clear H1
     replace H := Option.bind_eq_some_iff.mp H
     obtain ⟨⟨t1154, t1155⟩, A820, H⟩ := H
     replace H : ((laws_heldIntS.f kj61 t1155 1).bind fun t1156 => (if t1156 < 0 then (some false) else (if t1156 = t1154 then ((laws_toBoard.f kj61 a0_0 a0_1 l0_2).bind fun bt1157 => ((laws_toLeaper.f a1_0 a1_1).bind fun bt1162 => ((laws_toIntS.f kj61 l2).bind fun t1164 => ((impl_ColumnSumsOf.f kj61 bt1157.1 bt1157.2.1 bt1157.2.2 bt1162.1 bt1162.2 t1164).bind fun bt1167 => ((laws_eqIntS.f kj61 bt1167.1 t1119).bind fun t1171 => (if t1171 = true then (laws_FnExactColumnSumsOf.j2 kj61 t1155 t1154 (bt1167.2 != t1122)) else (laws_FnExactColumnSumsOf.j2 kj61 t1155 t1154 true))))))) else (some false)))) = some r := H
     have A82 := Aside0.mk A820
     clear A820
     replace H := Option.bind_eq_some_iff.mp H
     obtain ⟨t1156, A830, H⟩ := H
     replace H : (if t1156 < 0 then (some false) else (if t1156 = t1154 then ((laws_toBoard.f kj61 a0_0 a0_1 l0_2).bind fun bt1157 => ((laws_toLeaper.f a1_0 a1_1).bind fun bt1162 => ((laws_toIntS.f kj61 l2).bind fun t1164 => ((impl_ColumnSumsOf.f kj61 bt1157.1 bt1157.2.1 bt1157.2.2 bt1162.1 bt1162.2 t1164).bind fun bt1167 => ((laws_eqIntS.f kj61 bt1167.1 t1119).bind fun t1171 => (if t1171 = true then (laws_FnExactColumnSumsOf.j2 kj61 t1155 t1154 (bt1167.2 != t1122)) else (laws_FnExactColumnSumsOf.j2 kj61 t1155 t1154 true))))))) else (some false))) = some r := H
     have A83 := Aside0.mk A830
     clear A830
     by_cases c84 : t1156 < 0
     ·rw [if_pos c84] at H
      have c84b0 : decide (t1156 < 0) = true := decide_eq_true c84
      clear c84
      obtain rfl := Option.some.inj H
      obtain ⟨Ao85, co85, eo85⟩ := Kd.R_slice HO_12.out
      subst eo85
      go_wp2_with (first | ((with_reducible refine gate_callee (f := 32) rfl ?_); refine goesL_ (some 89) rfl rfl Try.func32 (by kernel_rfl) rfl #[.slice Ao85 t1134.length co85, .int .i64 1] rfl zar3 ?_; (with_reducible refine (laws_markIntS.calls kj61 (fun k_ => some k_ = (.slice Ao85 t1134.length co85 : Value).ownBlock) (.slice Ao85 t1134.length co85) t1134 1 t1154 t1155 w _ ?side1 ?side2 A82.out).mono ?_); (case side1 => exact zar1); (case side2 => exact Kd.R_tight rfl HO_12.out); rintro e w86 ⟨rfl, hy0, hb, hkp⟩; refine ⟨_, rfl, ?_⟩; have n0_ := Aside0.mk (Kd.R_mono (ok' := fun k_ => some k_ ≠ (.slice Ao85 t1134.length co85 : Value).ownBlock ∧ some k_ ≠ (.slice Ao41 t1150.length co41 : Value).ownBlock) (Kd.R_keptB (HO_8.out) hkp (fun k_ hk_ hs_ => (hk_.1) hs_)) (fun k_ hk_ => ⟨hk_.1.1, hk_.1.2⟩)); have n1_ := Aside0.mk (Kd.R_reok rfl hy0 (fun k_ e_ => HO_12.out.1 k_ e_)); have n2_ := Aside0.mk (Kd.R_mono (ok' := fun k_ => some k_ ≠ (v1120 : Value).ownBlock ∧ some k_ ≠ (.slice Ao85 t1134.length co85 : Value).ownBlock) (Kd.R_keptB (HO_1129002.out) hkp (fun k_ hk_ hs_ => (hk_.2) hs_)) (fun k_ hk_ => ⟨hk_.1.1, hk_.1.2⟩)); have n3_ := Aside0.mk (blk_kept zar2 hkp (fun hs_ => (fun e_ => (Kd.R_ne HO_12.out BK1106.out (by decide)) e_) hs_)); have n4_ := Aside0.mk (blk_kept zar4 hkp (fun hs_ => (fun e_ => (Kd.R_ne HO_12.out BK1107.out (by decide)) e_) hs_)); have n5_ := Aside0.mk (blk_kept zar7 hkp (fun hs_ => (fun e_ => (Kd.R_ne HO_12.out BK1128.out (by decide)) e_) hs_)); have n6_ := Aside0.mk (hb); clear HO_8; clear HO_12; clear HO_1129002; clear BK1106; clear BK1107; clear BK1128; clear HB; have HO_8 := n0_; have HO_12 := n1_; have HO_1129002 := n2_; have BK1106 := n3_; have BK1107 := n4_; have BK1128 := n5_; have HB := n6_; clear n0_ n1_ n2_ n3_ n4_ n5_ n6_; (try clear hb); (try clear hkp); (try clear hy0)) | ((with_reducible refine gate_callee (f := 33) rfl ?_); refine goesL_ (some 92) rfl rfl Try.func33 (by kernel_rfl) rfl #[.slice Ao85 t1155.length co85, .int .i64 1] rfl zar23 ?_; (with_reducible refine (laws_heldIntS.calls kj61 _ _ t1155 1 t1156 _ ?side1 ?side2 A83.out).mono ?_); (case side1 => exact zar14); (case side2 => exact zar37); rintro e w' ⟨rfl, ⟨nd, rfl⟩⟩; refine ⟨_, rfl, ?_⟩))
      go_ret
      exact ⟨zar17, zar1⟩
     rw [if_neg c84] at H
     have c84b0 : decide (t1156 < 0) = false := decide_eq_false c84
     clear c84
     by_cases c87 : t1156 = t1154
     rotate_left
     ·rw [if_neg c87] at H
      have c87b0 : (t1156 == t1154) = false := beq_eq_false_iff_ne.mpr c87
      have c87b1 : (t1156 != t1154) = true := bne_iff_ne.mpr c87
      obtain rfl := Option.some.inj H
      obtain ⟨Ao112, co112, eo112⟩ := Kd.R_slice HO_12.out
      subst eo112
      go_wp2_with (first | ((with_reducible refine gate_callee (f := 32) rfl ?_); refine goesL_ (some 89) rfl rfl Try.func32 (by kernel_rfl) rfl #[.slice Ao112 t1134.length co112, .int .i64 1] rfl zar3 ?_; (with_reducible refine (laws_markIntS.calls kj61 (fun k_ => some k_ = (.slice Ao112 t1134.length co112 : Value).ownBlock) (.slice Ao112 t1134.length co112) t1134 1 t1154 t1155 w _ ?side1 ?side2 A82.out).mono ?_); (case side1 => exact zar1); (case side2 => exact Kd.R_tight rfl HO_12.out); rintro e w113 ⟨rfl, hy0, hb, hkp⟩; refine ⟨_, rfl, ?_⟩; have n0_ := Aside0.mk (Kd.R_mono (ok' := fun k_ => some k_ ≠ (.slice Ao112 t1134.length co112 : Value).ownBlock ∧ some k_ ≠ (.slice Ao41 t1150.length co41 : Value).ownBlock) (Kd.R_keptB (HO_8.out) hkp (fun k_ hk_ hs_ => (hk_.1) hs_)) (fun k_ hk_ => ⟨hk_.1.1, hk_.1.2⟩)); have n1_ := Aside0.mk (Kd.R_reok rfl hy0 (fun k_ e_ => HO_12.out.1 k_ e_)); have n2_ := Aside0.mk (Kd.R_mono (ok' := fun k_ => some k_ ≠ (v1120 : Value).ownBlock ∧ some k_ ≠ (.slice Ao112 t1134.length co112 : Value).ownBlock) (Kd.R_keptB (HO_1129002.out) hkp (fun k_ hk_ hs_ => (hk_.2) hs_)) (fun k_ hk_ => ⟨hk_.1.1, hk_.1.2⟩)); have n3_ := Aside0.mk (blk_kept zar2 hkp (fun hs_ => (fun e_ => (Kd.R_ne HO_12.out BK1106.out (by decide)) e_) hs_)); have n4_ := Aside0.mk (blk_kept zar4 hkp (fun hs_ => (fun e_ => (Kd.R_ne HO_12.out BK1107.out (by decide)) e_) hs_)); have n5_ := Aside0.mk (blk_kept zar7 hkp (fun hs_ => (fun e_ => (Kd.R_ne HO_12.out BK1128.out (by decide)) e_) hs_)); have n6_ := Aside0.mk (hb); clear HO_8; clear HO_12; clear HO_1129002; clear BK1106; clear BK1107; clear BK1128; clear HB; have HO_8 := n0_; have HO_12 := n1_; have HO_1129002 := n2_; have BK1106 := n3_; have BK1107 := n4_; have BK1128 := n5_; have HB := n6_; clear n0_ n1_ n2_ n3_ n4_ n5_ n6_; (try clear hb); (try clear hkp); (try clear hy0)) | ((with_reducible refine gate_callee (f := 33) rfl ?_); refine goesL_ (some 92) rfl rfl Try.func33 (by kernel_rfl) rfl #[.slice Ao112 t1155.length co112, .int .i64 1] rfl zar23 ?_; (with_reducible refine (laws_heldIntS.calls kj61 _ _ t1155 1 t1156 _ ?side1 ?side2 A83.out).mono ?_); (case side1 => exact zar14); (case side2 => exact zar37); rintro e w' ⟨rfl, ⟨nd, rfl⟩⟩; refine ⟨_, rfl, ?_⟩))
      go_ret
      exact ⟨zar17, zar1⟩
     rw [if_pos c87] at H
     have c87b0 : (t1156 == t1154) = true := beq_iff_eq.mpr c87
     have c87b1 : (t1156 != t1154) = false := bne_eq_false_iff_eq.mpr c87
     clear c87
     replace H := Option.bind_eq_some_iff.mp H
     obtain ⟨⟨t1157, t1158, t1159⟩, A880, H⟩ := H
     replace H : ((laws_toLeaper.f a1_0 a1_1).bind fun bt1162 => ((laws_toIntS.f kj61 l2).bind fun t1164 => ((impl_ColumnSumsOf.f kj61 t1157 t1158 t1159 bt1162.1 bt1162.2 t1164).bind fun bt1167 => ((laws_eqIntS.f kj61 bt1167.1 t1119).bind fun t1171 => (if t1171 = true then (laws_FnExactColumnSumsOf.j2 kj61 t1155 t1154 (bt1167.2 != t1122)) else (laws_FnExactColumnSumsOf.j2 kj61 t1155 t1154 true)))))) = some r := H
     have A88 := Aside0.mk A880
     clear A880
     replace H := Option.bind_eq_some_iff.mp H
     obtain ⟨⟨t1162, t1163⟩, A890, H⟩ := H
     replace H : ((laws_toIntS.f kj61 l2).bind fun t1164 => ((impl_ColumnSumsOf.f kj61 t1157 t1158 t1159 t1162 t1163 t1164).bind fun bt1167 => ((laws_eqIntS.f kj61 bt1167.1 t1119).bind fun t1171 => (if t1171 = true then (laws_FnExactColumnSumsOf.j2 kj61 t1155 t1154 (bt1167.2 != t1122)) else (laws_FnExactColumnSumsOf.j2 kj61 t1155 t1154 true))))) = some r := H
     have A89 := Aside0.mk A890
     clear A890
     replace H := Option.bind_eq_some_iff.mp H
     obtain ⟨t1164, A900, H⟩ := H
     replace H : ((impl_ColumnSumsOf.f kj61 t1157 t1158 t1159 t1162 t1163 t1164).bind fun bt1167 => ((laws_eqIntS.f kj61 bt1167.1 t1119).bind fun t1171 => (if t1171 = true then (laws_FnExactColumnSumsOf.j2 kj61 t1155 t1154 (bt1167.2 != t1122)) else (laws_FnExactColumnSumsOf.j2 kj61 t1155 t1154 true)))) = some r := H
     have A90 := Aside0.mk A900
     clear A900
     replace H := Option.bind_eq_some_iff.mp H
     obtain ⟨⟨t1167, t1170⟩, A910, H⟩ := H
     replace H : ((laws_eqIntS.f kj61 t1167 t1119).bind fun t1171 => (if t1171 = true then (laws_FnExactColumnSumsOf.j2 kj61 t1155 t1154 (t1170 != t1122)) else (laws_FnExactColumnSumsOf.j2 kj61 t1155 t1154 true))) = some r := H
     have A91 := Aside0.mk A910
     clear A910
     have HC92 := Aside0.mk H
     clear H
     obtain ⟨Ao93, co93, eo93⟩ := Kd.R_slice HO_12.out
     subst eo93
     try go_wp2_with (first | ((with_reducible refine gate_callee (f := 32) rfl ?_); refine goesL_ (some 89) rfl rfl Try.func32 (by kernel_rfl) rfl #[.slice Ao93 t1134.length co93, .int .i64 1] rfl zar3 ?_; (with_reducible refine (laws_markIntS.calls kj61 (fun k_ => some k_ = (.slice Ao93 t1134.length co93 : Value).ownBlock) (.slice Ao93 t1134.length co93) t1134 1 t1154 t1155 w _ ?side1 ?side2 A82.out).mono ?_); (case side1 => exact zar1); (case side2 => exact Kd.R_tight rfl HO_12.out); rintro e w94 ⟨rfl, hy0, hb, hkp⟩; refine ⟨_, rfl, ?_⟩; have n0_ := Aside0.mk (Kd.R_mono (ok' := fun k_ => some k_ ≠ (.slice Ao93 t1134.length co93 : Value).ownBlock ∧ some k_ ≠ (.slice Ao41 t1150.length co41 : Value).ownBlock) (Kd.R_keptB (HO_8.out) hkp (fun k_ hk_ hs_ => (hk_.1) hs_)) (fun k_ hk_ => ⟨hk_.1.1, hk_.1.2⟩)); have n1_ := Aside0.mk (Kd.R_reok rfl hy0 (fun k_ e_ => HO_12.out.1 k_ e_)); have n2_ := Aside0.mk (Kd.R_mono (ok' := fun k_ => some k_ ≠ (v1120 : Value).ownBlock ∧ some k_ ≠ (.slice Ao93 t1134.length co93 : Value).ownBlock) (Kd.R_keptB (HO_1129002.out) hkp (fun k_ hk_ hs_ => (hk_.2) hs_)) (fun k_ hk_ => ⟨hk_.1.1, hk_.1.2⟩)); have n3_ := Aside0.mk (blk_kept zar2 hkp (fun hs_ => (fun e_ => (Kd.R_ne HO_12.out BK1106.out (by decide)) e_) hs_)); have n4_ := Aside0.mk (blk_kept zar4 hkp (fun hs_ => (fun e_ => (Kd.R_ne HO_12.out BK1107.out (by decide)) e_) hs_)); have n5_ := Aside0.mk (blk_kept zar7 hkp (fun hs_ => (fun e_ => (Kd.R_ne HO_12.out BK1128.out (by decide)) e_) hs_)); have n6_ := Aside0.mk (hb); clear HO_8; clear HO_12; clear HO_1129002; clear BK1106; clear BK1107; clear BK1128; clear HB; have HO_8 := n0_; have HO_12 := n1_; have HO_1129002 := n2_; have BK1106 := n3_; have BK1107 := n4_; have BK1128 := n5_; have HB := n6_; clear n0_ n1_ n2_ n3_ n4_ n5_ n6_; (try clear hb); (try clear hkp); (try clear hy0)) | ((with_reducible refine gate_callee (f := 33) rfl ?_); refine goesL_ (some 92) rfl rfl Try.func33 (by kernel_rfl) rfl #[.slice Ao93 t1155.length co93, .int .i64 1] rfl zar23 ?_; (with_reducible refine (laws_heldIntS.calls kj61 _ _ t1155 1 t1156 _ ?side1 ?side2 A83.out).mono ?_); (case side1 => exact zar14); (case side2 => exact zar37); rintro e w' ⟨rfl, ⟨nd, rfl⟩⟩; refine ⟨_, rfl, ?_⟩))
     (try (rw [drewN_self w94]; generalize hq_ : World.drewN w94 _ = w94; have n0_ : Aside0 (Kd.R (Kd.int .i64) 3 w94 w.heap.size (fun k_ => (some k_ ≠ (v1120 : Value).ownBlock ∧ some k_ ≠ (.slice Ao93 t1134.length co93 : Value).ownBlock)) (.slice Ao41 t1150.length co41) t1150) := ⟨by rw [← hq_]; exact zar8⟩; have n1_ : Aside0 (Kd.R (Kd.int .i64) 3 w94 w.heap.size (fun k_ => (some k_ ≠ (v1120 : Value).ownBlock ∧ some k_ ≠ (.slice Ao41 t1150.length co41 : Value).ownBlock)) (.slice Ao93 t1134.length co93) t1155) := ⟨by rw [← hq_]; exact zar9⟩; have n2_ : Aside0 (Kd.R (Kd.int .i64) 3 w94 w.heap.size (fun k_ => (some k_ ≠ (.slice Ao93 t1134.length co93 : Value).ownBlock ∧ some k_ ≠ (.slice Ao41 t1150.length co41 : Value).ownBlock)) v1120 t1119) := ⟨by rw [← hq_]; exact zar10⟩; have n3_ : Aside0 (w94.heap[gb1106]? = some (.cells #[.int .i64 a0_0, .int .i64 a0_1, .slice A0_2 l0_2.length c0_2] 24 (0, 0))) := ⟨by rw [← hq_]; exact zar2⟩; have n4_ : Aside0 (w94.heap[gb1107]? = some (.cells #[.int .i64 a1_0, .int .i64 a1_1] 26 (0, 0))) := ⟨by rw [← hq_]; exact zar4⟩; have n5_ : Aside0 (w94.heap[gb1128]? = some (.cells #[.int .i64 t1123, .int .i64 t1124, .slice Ao41 t1150.length co41] 30 (0, 0))) := ⟨by rw [← hq_]; exact zar7⟩; have n6_ : Aside0 (Below w.heap.size w w94) := ⟨by rw [← hq_]; exact zar1⟩; clear HO_1129002 HO_12 HO_8 BK1106 BK1107 BK1128 HB hq_; have HO_1129002 := n0_; have HO_12 := n1_; have HO_8 := n2_; have BK1106 := n3_; have BK1107 := n4_; have BK1128 := n5_; have HB := n6_; clear n0_ n1_ n2_ n3_ n4_ n5_ n6_))
     have n0_ := Aside0.mk (Kd.R_drew HO_8.out)
     have n1_ := Aside0.mk (Kd.R_drew HO_12.out)
     have n2_ := Aside0.mk (Kd.R_drew HO_1129002.out)
     have n3_ := Aside0.mk (blk_drew BK1106.out)
     have n4_ := Aside0.mk (blk_drew BK1107.out)
     have n5_ := Aside0.mk (blk_drew BK1128.out)
     have n6_ := Aside0.mk (below_drew1 HB.out)
     clear HO_8
     clear HO_12
     clear HO_1129002
     clear BK1106
     clear BK1107
     clear BK1128
     clear HB
     have HO_8 := n0_
     have HO_12 := n1_
     have HO_1129002 := n2_
     have BK1106 := n3_
     have BK1107 := n4_
     have BK1128 := n5_
     have HB := n6_
     clear n0_ n1_ n2_ n3_ n4_ n5_ n6_
     refine start_ (n := 12) (S := fun w' => w'.cell? ⟨gb1106, 0, none⟩ = some (.int .i64 a0_0) ∧ w'.cell? ⟨gb1106, 1, none⟩ = some (.int .i64 a0_1) ∧ w'.cell? ⟨gb1106, 2, none⟩ = some (.slice A0_2 l0_2.length c0_2) ∧ w'.cell? ⟨gb1107, 0, none⟩ = some (.int .i64 a1_0) ∧ w'.cell? ⟨gb1107, 1, none⟩ = some (.int .i64 a1_1)) (ds := []) #[false, false, false, false, false, false, false, false, false, false, false, false] (by kernel_rfl) rfl rfl ⟨(blk_cell BK1106.out 0).trans rfl, (blk_cell BK1106.out 1).trans rfl, (blk_cell BK1106.out 2).trans rfl, (blk_cell BK1107.out 0).trans rfl, (blk_cell BK1107.out 1).trans rfl⟩ (fun hHeld => ?_); refine with_tabW laws_FnExactColumnSumsOf.tab30 laws_FnExactColumnSumsOf.bits30 (fun HT_ HW_ => ?_)
     generalize w94.drew = w95 at HO_8 HO_12 HO_1129002 BK1106 BK1107 BK1128 HB hHeld ⊢
     refine pure_ (i := 4) (N := some 103) (v := ?_) (a' := ?_) #[false, false, false, false, true, false, false, false, false, false, false, false] rfl rfl (any_of HT_.out (by kernel_rfl)) (fun _ _ _ h => h) (Or.inl ⟨by rfl, ?_⟩) ?_ ?_
     rotate_left
     ·intro w'
      go_simp
      with_reducible rfl
     rotate_left
     ·simp only [Act.put, List.setIfInBounds_toArray, List.set_cons_zero, List.set_cons_succ, i64_w, i32_w]
      rfl
     refine take_ (i := 0) (N := some 99) (v := ?_) (a' := ?_) #[true, false, false, false, true, false, false, false, false, false, false, false] rfl rfl (take_ofW HT_.out HW_.out (by kernel_rfl)) (fun _ _ _ h => h) (Or.inl ⟨by rfl, ?_⟩) hHeld ?_ ?_
     rotate_left
     ·rintro w' ⟨s0, s1, s2, s3, s4⟩
      go_simp
      with_reducible rfl
     rotate_left
     ·simp only [Act.put, List.setIfInBounds_toArray, List.set_cons_zero, List.set_cons_succ, i64_w, i32_w]
      rfl
     refine take_ (i := 2) (N := some 101) (v := ?_) (a' := ?_) #[true, false, true, false, true, false, false, false, false, false, false, false] rfl rfl (take_ofW HT_.out HW_.out (by kernel_rfl)) (fun _ _ _ h => h) (Or.inl ⟨by rfl, ?_⟩) hHeld ?_ ?_
     rotate_left
     ·rintro w' ⟨s0, s1, s2, s3, s4⟩
      go_simp
      with_reducible rfl
     rotate_left
     ·simp only [Act.put, List.setIfInBounds_toArray, List.set_cons_zero, List.set_cons_succ, i64_w, i32_w]
      rfl
     refine one_ (i := 1) (N := some 100) #[true, true, true, false, true, false, false, false, false, false, false, false] rfl rfl (one_of HT_.out (by kernel_rfl)) (by decide) (fun K hK => ?_)
     refine goes_ Try.func17 (by kernel_rfl) rfl #[.agg #[.int .i64 a0_0, .int .i64 a0_1, .slice A0_2 l0_2.length c0_2]] (by rfl) rfl rfl zar3 ?_
     with_reducible refine (laws_toBoard.calls kj61 a0_0 a0_1 _ _ l0_2 t1157 t1158 t1159 _ ?side1 ?side2 A88.out).mono ?_
     (case side1 => exact zar13)
     (case side2 => exact HC0_2.out)
     rintro e w96 ⟨v1160, rfl, ho0, hb⟩
     refine ⟨_, rfl, ?_⟩
     have n0_ := Aside0.mk (Kd.R_elder' zar10 (Kd.R_base ho0) hb)
     have n1_ := Aside0.mk (Kd.R_elder' zar9 (Kd.R_base ho0) hb)
     have n2_ := Aside0.mk (Kd.R_elder' zar8 (Kd.R_base ho0) hb)
     have n3_ := Aside0.mk (Kd.R_lower (Kd.R_new' (Kd.R_new' (Kd.R_new' ho0 (Kd.R_lt zar10)) (Kd.R_lt zar9)) (Kd.R_lt zar8)) (below_size zar1))
     have n4_ := Aside0.mk (blk_below (g := gb1106) (o := .cells #[.int .i64 a0_0, .int .i64 a0_1, .slice A0_2 l0_2.length c0_2] 24 (0, 0)) zar2 hb)
     have n5_ := Aside0.mk (blk_below (g := gb1107) (o := .cells #[.int .i64 a1_0, .int .i64 a1_1] 26 (0, 0)) zar4 hb)
     have n6_ := Aside0.mk (blk_below (g := gb1128) (o := .cells #[.int .i64 t1123, .int .i64 t1124, .slice Ao41 t1150.length co41] 30 (0, 0)) zar7 hb)
     have n7_ := Aside0.mk (below_step zar1 hb)
     clear HO_8
     clear HO_12
     clear HO_1129002
     clear BK1106
     clear BK1107
     clear BK1128
     clear HB
     have HO_8 := n0_
     have HO_12 := n1_
     have HO_1129002 := n2_
     have HO1161 := n3_
     have BK1106 := n4_
     have BK1107 := n5_
     have BK1128 := n6_
     have HB := n7_
     clear n0_ n1_ n2_ n3_ n4_ n5_ n6_ n7_
     (try clear hb)
     (try clear hb2)
     (try clear hk)
     (try clear hi)
     (try clear ho0)
     (try clear hna_)
     (try clear hnb_)
     refine hK.out _ _ ⟨(blk_cell BK1106.out 0).trans rfl, (blk_cell BK1106.out 1).trans rfl, (blk_cell BK1106.out 2).trans rfl, (blk_cell BK1107.out 0).trans rfl, (blk_cell BK1107.out 1).trans rfl⟩ (fun hHeld => ?_)
     clear hK K
     refine norm_ (a' := ?_) ?_ ?_
     rotate_left
     ·show Act.put _ (some 100) _ = _
      simp only [Act.put, List.setIfInBounds_toArray, List.set_cons_zero, List.set_cons_succ, i64_w, i32_w]
      rfl
     refine one_ (i := 3) (N := some 102) #[true, true, true, true, true, false, false, false, false, false, false, false] rfl rfl (one_of HT_.out (by kernel_rfl)) (by decide) (fun K hK => ?_)
     refine goes_ Try.func18 (by kernel_rfl) rfl #[.agg #[.int .i64 a1_0, .int .i64 a1_1]] (by rfl) rfl rfl zar3 ?_
     with_reducible refine (laws_toLeaper.calls a1_0 a1_1 t1162 t1163 _ A89.out).mono ?_
     rintro e w97 ⟨rfl, hb⟩
     refine ⟨_, rfl, ?_⟩
     have n0_ := Aside0.mk (Kd.R_below zar10 hb)
     have n1_ := Aside0.mk (Kd.R_below zar9 hb)
     have n2_ := Aside0.mk (Kd.R_below zar8 hb)
     have n3_ := Aside0.mk (Kd.R_below zar28 hb)
     have n4_ := Aside0.mk (blk_below (g := gb1106) (o := .cells #[.int .i64 a0_0, .int .i64 a0_1, .slice A0_2 l0_2.length c0_2] 24 (0, 0)) zar2 hb)
     have n5_ := Aside0.mk (blk_below (g := gb1107) (o := .cells #[.int .i64 a1_0, .int .i64 a1_1] 26 (0, 0)) zar4 hb)
     have n6_ := Aside0.mk (blk_below (g := gb1128) (o := .cells #[.int .i64 t1123, .int .i64 t1124, .slice Ao41 t1150.length co41] 30 (0, 0)) zar7 hb)
     have n7_ := Aside0.mk (below_step zar1 hb)
     clear HO_8
     clear HO_12
     clear HO_1129002
     clear HO1161
     clear BK1106
     clear BK1107
     clear BK1128
     clear HB
     have HO_8 := n0_
     have HO_12 := n1_
     have HO_1129002 := n2_
     have HO1161 := n3_
     have BK1106 := n4_
     have BK1107 := n5_
     have BK1128 := n6_
     have HB := n7_
     clear n0_ n1_ n2_ n3_ n4_ n5_ n6_ n7_
     (try clear hb)
     (try clear hb2)
     (try clear hk)
     (try clear hi)
     (try clear hna_)
     (try clear hnb_)
     refine hK.out _ _ ⟨(blk_cell BK1106.out 0).trans rfl, (blk_cell BK1106.out 1).trans rfl, (blk_cell BK1106.out 2).trans rfl, (blk_cell BK1107.out 0).trans rfl, (blk_cell BK1107.out 1).trans rfl⟩ (fun hHeld => ?_)
     clear hK K
     refine norm_ (a' := ?_) ?_ ?_
     rotate_left
     ·show Act.put _ (some 102) _ = _
      simp only [Act.put, List.setIfInBounds_toArray, List.set_cons_zero, List.set_cons_succ, i64_w, i32_w]
      rfl
     refine one_ (i := 5) (N := some 104) #[true, true, true, true, true, true, false, false, false, false, false, false] rfl rfl (one_of HT_.out (by kernel_rfl)) (by decide) (fun K hK => ?_)
     refine goes_ Try.func19 (by kernel_rfl) rfl #[.slice A2 l2.length c2] (by rfl) rfl rfl zar3 ?_
     with_reducible refine (laws_toIntS.calls kj61 _ _ l2 t1164 _ ?side1 ?side2 A90.out).mono ?_
     (case side1 => exact zar21)
     (case side2 => exact HC2.out)
     rintro e w98 ⟨v1165, rfl, ho0, hb⟩
     refine ⟨_, rfl, ?_⟩
     have n0_ := Aside0.mk (Kd.R_elder' zar10 (Kd.R_base ho0) hb)
     have n1_ := Aside0.mk (Kd.R_elder' zar9 (Kd.R_base ho0) hb)
     have n2_ := Aside0.mk (Kd.R_elder' zar8 (Kd.R_base ho0) hb)
     have n3_ := Aside0.mk (Kd.R_elder' zar28 (Kd.R_base ho0) hb)
     have n4_ := Aside0.mk (Kd.R_lower (Kd.R_new' (Kd.R_new' (Kd.R_new' (Kd.R_new' ho0 (Kd.R_lt zar10)) (Kd.R_lt zar9)) (Kd.R_lt zar8)) (Kd.R_lt zar28)) (below_size zar1))
     have n5_ := Aside0.mk (blk_below (g := gb1106) (o := .cells #[.int .i64 a0_0, .int .i64 a0_1, .slice A0_2 l0_2.length c0_2] 24 (0, 0)) zar2 hb)
     have n6_ := Aside0.mk (blk_below (g := gb1107) (o := .cells #[.int .i64 a1_0, .int .i64 a1_1] 26 (0, 0)) zar4 hb)
     have n7_ := Aside0.mk (blk_below (g := gb1128) (o := .cells #[.int .i64 t1123, .int .i64 t1124, .slice Ao41 t1150.length co41] 30 (0, 0)) zar7 hb)
     have n8_ := Aside0.mk (below_step zar1 hb)
     clear HO_8
     clear HO_12
     clear HO_1129002
     clear HO1161
     clear BK1106
     clear BK1107
     clear BK1128
     clear HB
     have HO_8 := n0_
     have HO_12 := n1_
     have HO_1129002 := n2_
     have HO1161 := n3_
     have HO1166 := n4_
     have BK1106 := n5_
     have BK1107 := n6_
     have BK1128 := n7_
     have HB := n8_
     clear n0_ n1_ n2_ n3_ n4_ n5_ n6_ n7_ n8_
     (try clear hb)
     (try clear hb2)
     (try clear hk)
     (try clear hi)
     (try clear ho0)
     (try clear hna_)
     (try clear hnb_)
     obtain ⟨Ao99, co99, eo99⟩ := Kd.R_slice HO1161.out
     (first | subst eo99 | (injection eo99 with f1_ f2_ f3_; have f4_ := f1_.symm; have f5_ := f3_.symm; clear f1_ f2_ f3_; subst f4_; subst f5_))
     obtain ⟨Ao100, co100, eo100⟩ := Kd.R_slice HO1166.out
     (first | subst eo100 | (injection eo100 with f1_ f2_ f3_; have f4_ := f1_.symm; have f5_ := f3_.symm; clear f1_ f2_ f3_; subst f4_; subst f5_))
     refine hK.out _ _ ⟨(blk_cell BK1106.out 0).trans rfl, (blk_cell BK1106.out 1).trans rfl, (blk_cell BK1106.out 2).trans rfl, (blk_cell BK1107.out 0).trans rfl, (blk_cell BK1107.out 1).trans rfl⟩ (fun hHeld => ?_)
     clear hK K
     refine norm_ (a' := ?_) ?_ ?_
     rotate_left
     ·show Act.put _ (some 104) _ = _
      simp only [Act.put, List.setIfInBounds_toArray, List.set_cons_zero, List.set_cons_succ, i64_w, i32_w]
      rfl
     refine one_ (i := 6) (N := some 105) #[true, true, true, true, true, true, true, false, false, false, false, false] rfl rfl (one_of HT_.out (by kernel_rfl)) (by decide) (fun K hK => ?_)
     refine goes_ Try.func43 (by kernel_rfl) rfl #[.agg #[.int .i64 t1157, .int .i64 t1158, .slice Ao99 t1159.length co99], .agg #[.int .i64 t1162, .int .i64 t1163], .slice Ao100 t1164.length co100] (by rfl) rfl rfl zar3 ?_
     with_reducible refine (impl_ColumnSumsOf.calls kj61 t1157 t1158 _ _ t1159 t1162 t1163 _ _ t1164 t1167 t1170 _ ?side1 ?side2 ?side3 ?side4 A91.out).mono ?_
     (case side1 => repeat (first | exact (Kd.R_reads' HO1161.out).2.2 | (with_reducible refine Kd.C_alloc ?_ _) | (with_reducible refine Kd.C_drewN ?_ _) | (with_reducible refine Kd.C_drew ?_)))
     (case side2 => exact (Kd.R_reads' HO1161.out).2.1)
     (case side3 => repeat (first | exact (Kd.R_reads' HO1166.out).2.2 | (with_reducible refine Kd.C_alloc ?_ _) | (with_reducible refine Kd.C_drewN ?_ _) | (with_reducible refine Kd.C_drew ?_)))
     (case side4 => exact (Kd.R_reads' HO1166.out).2.1)
     rintro e w101 ⟨v1168, rfl, ho0, hb⟩
     refine ⟨_, rfl, ?_⟩
     have n0_ := Aside0.mk (Kd.R_elder' zar10 (Kd.R_base ho0) hb)
     have n1_ := Aside0.mk (Kd.R_elder' zar9 (Kd.R_base ho0) hb)
     have n2_ := Aside0.mk (Kd.R_elder' zar8 (Kd.R_base ho0) hb)
     have n3_ := Aside0.mk (Kd.R_elder' zar28 (Kd.R_base ho0) hb)
     have n4_ := Aside0.mk (Kd.R_elder' (by (with_reducible repeat (first | apply Kd.R_alloc | apply Kd.R_drewN | apply Kd.R_drew)); exact HO1166.out) (Kd.R_base ho0) hb)
     have n5_ := Aside0.mk (Kd.R_lower (Kd.R_new' (Kd.R_new' (Kd.R_new' (Kd.R_new' (Kd.R_new' ho0 (Kd.R_lt zar10)) (Kd.R_lt zar9)) (Kd.R_lt zar8)) (Kd.R_lt zar28)) (Kd.R_lt (by (with_reducible repeat (first | apply Kd.R_alloc | apply Kd.R_drewN | apply Kd.R_drew)); exact HO1166.out))) (below_size zar1))
     have n6_ := Aside0.mk (blk_below (g := gb1106) (o := .cells #[.int .i64 a0_0, .int .i64 a0_1, .slice A0_2 l0_2.length c0_2] 24 (0, 0)) zar2 hb)
     have n7_ := Aside0.mk (blk_below (g := gb1107) (o := .cells #[.int .i64 a1_0, .int .i64 a1_1] 26 (0, 0)) zar4 hb)
     have n8_ := Aside0.mk (blk_below (g := gb1128) (o := .cells #[.int .i64 t1123, .int .i64 t1124, .slice Ao41 t1150.length co41] 30 (0, 0)) zar7 hb)
     have n9_ := Aside0.mk (below_step zar1 hb)
     clear HO_8
     clear HO_12
     clear HO_1129002
     clear HO1161
     clear HO1166
     clear BK1106
     clear BK1107
     clear BK1128
     clear HB
     have HO_8 := n0_
     have HO_12 := n1_
     have HO_1129002 := n2_
     have HO1161 := n3_
     have HO1166 := n4_
     have HO1169 := n5_
     have BK1106 := n6_
     have BK1107 := n7_
     have BK1128 := n8_
     have HB := n9_
     clear n0_ n1_ n2_ n3_ n4_ n5_ n6_ n7_ n8_ n9_
     (try clear hb)
     (try clear hb2)
     (try clear hk)
     (try clear hi)
     (try clear ho0)
     (try clear hna_)
     (try clear hnb_)
     refine hK.out _ _ ⟨(blk_cell BK1106.out 0).trans rfl, (blk_cell BK1106.out 1).trans rfl, (blk_cell BK1106.out 2).trans rfl, (blk_cell BK1107.out 0).trans rfl, (blk_cell BK1107.out 1).trans rfl⟩ (fun hHeld => ?_)
     clear hK K
     refine norm_ (a' := ?_) ?_ ?_
     rotate_left
     ·show Act.put _ (some 105) _ = _
      simp only [Act.put, List.setIfInBounds_toArray, List.set_cons_zero, List.set_cons_succ, i64_w, i32_w]
      rfl
     refine pure_ (i := 7) (N := some 98) (v := ?_) (a' := ?_) #[true, true, true, true, true, true, true, true, false, false, false, false] rfl rfl (any_of HT_.out (by kernel_rfl)) (fun _ _ _ h => h) (Or.inl ⟨by rfl, ?_⟩) ?_ ?_
     rotate_left
     ·intro w'
      go_simp
      with_reducible rfl
     rotate_left
     ·simp only [Act.put, List.setIfInBounds_toArray, List.set_cons_zero, List.set_cons_succ, i64_w, i32_w]
      rfl
     refine pure_ (i := 8) (N := some 106) (v := ?_) (a' := ?_) #[true, true, true, true, true, true, true, true, true, false, false, false] rfl rfl (any_of HT_.out (by kernel_rfl)) (fun _ _ _ h => h) (Or.inl ⟨by rfl, ?_⟩) ?_ ?_
     rotate_left
     ·intro w'
      go_simp
      with_reducible rfl
     rotate_left
     ·simp only [Act.put, List.setIfInBounds_toArray, List.set_cons_zero, List.set_cons_succ, i64_w, i32_w]
      rfl
     refine pure_ (i := 9) (N := some 107) (v := ?_) (a' := ?_) #[true, true, true, true, true, true, true, true, true, true, false, false] rfl rfl (any_of HT_.out (by kernel_rfl)) (fun _ _ _ h => h) (Or.inl ⟨by rfl, ?_⟩) ?_ ?_
     rotate_left
     ·intro w'
      go_simp
      with_reducible rfl
     rotate_left
     ·simp only [Act.put, List.setIfInBounds_toArray, List.set_cons_zero, List.set_cons_succ, i64_w, i32_w]
      rfl
     refine pure_ (i := 10) (N := some 17) (v := ?_) (a' := ?_) #[true, true, true, true, true, true, true, true, true, true, true, false] rfl rfl (any_of HT_.out (by kernel_rfl)) (fun _ _ _ h => h) (Or.inl ⟨by rfl, ?_⟩) ?_ ?_
     rotate_left
     ·intro w'
      go_simp
      with_reducible rfl
     rotate_left
     ·simp only [Act.put, List.setIfInBounds_toArray, List.set_cons_zero, List.set_cons_succ, i64_w, i32_w]
      rfl
     refine pure_ (i := 11) (N := some 18) (v := ?_) (a' := ?_) #[true, true, true, true, true, true, true, true, true, true, true, true] rfl rfl (any_of HT_.out (by kernel_rfl)) (fun _ _ _ h => h) (Or.inl ⟨by rfl, ?_⟩) ?_ ?_
     rotate_left
     ·intro w'
      go_simp
      with_reducible rfl
     rotate_left
     ·simp only [Act.put, List.setIfInBounds_toArray, List.set_cons_zero, List.set_cons_succ, i64_w, i32_w]
      rfl
     refine done_ (done_of HT_.out (by kernel_rfl)) ?_
     go_upto_region 31 with (fail)
     go_cut [116] (fun v116 wc => ∃ (kq : Nat) (x116_91 : Bool), v116 = .bool x116_91 ∧ Aside0 (laws_FnExactColumnSumsOf.j2 kq t1155 t1154 x116_91 = some r) ∧ Aside0 (kq ≤ kj61) ∧ Aside0 (Kd.R (Kd.int .i64) 3 wc w.heap.size (fun k_ => some k_ ≠ ((.slice Ao41 t1150.length co41) : Value).ownBlock) (.slice Ao93 t1134.length co93) t1155) ∧ Aside0 (Kd.R (Kd.int .i64) 3 wc w.heap.size (fun k_ => some k_ ≠ ((.slice Ao93 t1134.length co93) : Value).ownBlock) (.slice Ao41 t1150.length co41) t1150) ∧ Aside0 (wc.heap[gb1106]? = some (.cells #[.int .i64 a0_0, .int .i64 a0_1, (.slice A0_2 l0_2.length c0_2)] 24 (0, 0))) ∧ Aside0 (wc.heap[gb1107]? = some (.cells #[.int .i64 a1_0, .int .i64 a1_1] 26 (0, 0))) ∧ Aside0 (wc.heap[gb1128]? = some (.cells #[.int .i64 t1123, .int .i64 t1124, (.slice Ao41 t1150.length co41)] 30 (0, 0))) ∧ Aside0 (Below w.heap.size w wc))
     case first =>
      have H := HC92.out
      clear HC92
      replace H := Option.bind_eq_some_iff.mp H
      obtain ⟨t1171, A1020, H⟩ := H
      replace H : (if t1171 = true then (laws_FnExactColumnSumsOf.j2 kj61 t1155 t1154 (t1170 != t1122)) else (laws_FnExactColumnSumsOf.j2 kj61 t1155 t1154 true)) = some r := H
      have A102 := Aside0.mk A1020
      clear A1020
      by_cases c103 : t1171 = true
      ·subst c103
       have H1 : (laws_FnExactColumnSumsOf.j2 kj61 t1155 t1154 (t1170 != t1122)) = some r := by rw [if_pos rfl] at H; exact H
       clear H
       have H := H1
       clear H1
       have H' := Aside0.mk H
       clear H
       obtain ⟨Ao104, co104, eo104⟩ := Kd.R_slice HO1169.out
       subst eo104
       obtain ⟨Ao105, co105, eo105⟩ := Kd.R_slice HO_8.out
       subst eo105
       go_wp2_with (first | ((with_reducible refine gate_callee (f := 22) rfl ?_); refine goesL_ (some 110) rfl rfl Try.func22 (by kernel_rfl) rfl #[.slice Ao104 t1167.length co104, .slice Ao105 t1119.length co105] rfl zar3 ?_; (with_reducible refine (laws_eqIntS.calls kj61 _ _ t1167 _ _ t1119 true _ ?side1 ?side2 ?side3 ?side4 A102.out).mono ?_); (case side1 => exact zar44); (case side2 => exact (Kd.R_reads' HO1169.out).2.1); (case side3 => exact zar22); (case side4 => exact (Kd.R_reads' HO_8.out).2.1); rintro e w' ⟨rfl, ⟨nd, rfl⟩⟩; refine ⟨_, rfl, ?_⟩))
       go_meet
       case rel => exact ⟨_, ((t1170 != t1122)), zar35, H', ⟨by have := HJ21.out; have := HJ61.out; first | omega | exact Nat.le_refl _⟩, ⟨zar39⟩, ⟨zar38⟩, ⟨zar51⟩, ⟨zar50⟩, ⟨zar49⟩, ⟨zar1⟩⟩
      replace c103 := Bool.eq_false_iff.mpr c103
      subst c103
      have H1 : (laws_FnExactColumnSumsOf.j2 kj61 t1155 t1154 true) = some r := by rw [if_neg (show ¬ (false = true) by decide)] at H; exact H
      clear H
      have H := H1
      clear H1
      have H' := Aside0.mk H
      clear H
      obtain ⟨Ao106, co106, eo106⟩ := Kd.R_slice HO1169.out
      subst eo106
      obtain ⟨Ao107, co107, eo107⟩ := Kd.R_slice HO_8.out
      subst eo107
      go_wp2_with (first | ((with_reducible refine gate_callee (f := 22) rfl ?_); refine goesL_ (some 110) rfl rfl Try.func22 (by kernel_rfl) rfl #[.slice Ao106 t1167.length co106, .slice Ao107 t1119.length co107] rfl zar3 ?_; (with_reducible refine (laws_eqIntS.calls kj61 _ _ t1167 _ _ t1119 false _ ?side1 ?side2 ?side3 ?side4 A102.out).mono ?_); (case side1 => exact zar44); (case side2 => exact (Kd.R_reads' HO1169.out).2.1); (case side3 => exact zar22); (case side4 => exact (Kd.R_reads' HO_8.out).2.1); rintro e w' ⟨rfl, ⟨nd, rfl⟩⟩; refine ⟨_, rfl, ?_⟩))
      go_meet
      case rel => exact ⟨_, (true), zar35, H', ⟨by have := HJ21.out; have := HJ61.out; first | omega | exact Nat.le_refl _⟩, ⟨zar39⟩, ⟨zar38⟩, ⟨zar51⟩, ⟨zar50⟩, ⟨zar49⟩, ⟨zar1⟩⟩
     case rest =>
      clear HC92
      try clear c1; try clear c2; try clear p2; try clear c3; try clear c4; try clear c4b0; try clear c4b1; try clear c5; try clear c6; try clear c7; try clear c8; try clear c8b0; try clear c10; try clear c11; try clear c12; try clear c15; try clear c17; try clear c18; try clear c19; try clear c21; try clear c22; try clear c25; try clear c31; try clear c32; try clear c33; try clear c38; try clear c39; try clear c42; try clear c43; try clear c48; try clear c53; try clear c56; try clear c59; try clear c69; try clear c70; try clear c74; try clear c74b0; try clear c76; try clear c81; try clear c84; try clear c84b0
      try clear c87; try clear c87b0; try clear c87b1; try clear c103; try clear hcz12_0; try clear hcz12_1; try clear hcz12_2; try clear hcz26_0; try clear hcz26_1; try clear hcz26_2; try clear hcz35_0; try clear hcz35_1; try clear hcz35_2; try clear hcz40_0; try clear hcz40_1; try clear hcz40_2; try clear hcz71_0; try clear hcz71_1; try clear hcz71_2; try clear hfz12_0; try clear hfz12_1; try clear hfz12_2; try clear hfz26_0; try clear hfz26_1; try clear hfz26_2; try clear hfz35_0; try clear hfz35_1; try clear hfz35_2; try clear hfz40_0; try clear hfz40_1; try clear hfz40_2; try clear hfz71_0; try clear hfz71_1
      try clear hfz71_2; try clear p2
      obtain ⟨kq, x116_91, rfl, HA, HJ91, HO_12, HO_1129002, BK1106, BK1107, BK1128, HB⟩ := hcut
      have hl12_91 := (Kd.R_reads' HO_12.out).1
      rw [hl12_91] at HO_12
      (try simp only [hl12_91])
      (try simp only [hl12_91] at BK1106)
      (try simp only [hl12_91] at BK1107)
      (try simp only [hl12_91] at BK1128)
      (try simp only [hl12_91] at HO_1129002)
      cases kq with
      | zero => exact absurd HA.out (by simp [laws_FnExactColumnSumsOf.j2])
      | succ kj91 =>
       have H := HA.out
       clear HA
       simp only [laws_FnExactColumnSumsOf.j2] at H
       by_cases c108 : x116_91 = true
       ·subst c108
        have H1 : (some false) = some r := by rw [if_pos rfl] at H; exact H
        clear H
        have H := H1
        clear H1
        obtain rfl := Option.some.inj H
        go_wp2
        go_ret
        exact ⟨zar17, zar1⟩
       replace c108 := Bool.eq_false_iff.mpr c108
       subst c108
       have H1 : ((laws_heldIntS.f kj91 t1155 1).bind fun t1172 => (if t1172 < 0 then (some false) else (if t1172 = t1154 then (some true) else (some false)))) = some r := by rw [if_neg (show ¬ (false = true) by decide)] at H; exact H
       clear H
       have H := H1
       clear H1
       replace H := Option.bind_eq_some_iff.mp H
       obtain ⟨t1172, A1090, H⟩ := H
       replace H : (if t1172 < 0 then (some false) else (if t1172 = t1154 then (some true) else (some false))) = some r := H
       have A109 := Aside0.mk A1090
       clear A1090
       by_cases c110 : t1172 < 0
       ·rw [if_pos c110] at H
        have c110b0 : decide (t1172 < 0) = true := decide_eq_true c110
        clear c110
        obtain rfl := Option.some.inj H
        go_wp2_with (first | ((with_reducible refine gate_callee (f := 33) rfl ?_); refine goesL_ (some 119) rfl rfl Try.func33 (by kernel_rfl) rfl #[.slice Ao93 t1155.length co93, .int .i64 1] rfl zar3 ?_; (with_reducible refine (laws_heldIntS.calls kj91 _ _ t1155 1 t1172 _ ?side1 ?side2 A109.out).mono ?_); (case side1 => exact zar14); (case side2 => exact (Kd.R_reads' HO_12.out).2.1); rintro e w' ⟨rfl, ⟨nd, rfl⟩⟩; refine ⟨_, rfl, ?_⟩))
        go_ret
        exact ⟨zar17, zar1⟩
       rw [if_neg c110] at H
       have c110b0 : decide (t1172 < 0) = false := decide_eq_false c110
       clear c110
       by_cases c111 : t1172 = t1154
       rotate_left
       ·rw [if_neg c111] at H
        have c111b0 : (t1172 == t1154) = false := beq_eq_false_iff_ne.mpr c111
        have c111b1 : (t1172 != t1154) = true := bne_iff_ne.mpr c111
        obtain rfl := Option.some.inj H
        go_wp2_with (first | ((with_reducible refine gate_callee (f := 33) rfl ?_); refine goesL_ (some 119) rfl rfl Try.func33 (by kernel_rfl) rfl #[.slice Ao93 t1155.length co93, .int .i64 1] rfl zar3 ?_; (with_reducible refine (laws_heldIntS.calls kj91 _ _ t1155 1 t1172 _ ?side1 ?side2 A109.out).mono ?_); (case side1 => exact zar14); (case side2 => exact (Kd.R_reads' HO_12.out).2.1); rintro e w' ⟨rfl, ⟨nd, rfl⟩⟩; refine ⟨_, rfl, ?_⟩))
        go_ret
        exact ⟨zar17, zar1⟩
       rw [if_pos c111] at H
       have c111b0 : (t1172 == t1154) = true := beq_iff_eq.mpr c111
       have c111b1 : (t1172 != t1154) = false := bne_eq_false_iff_eq.mpr c111
       clear c111
       obtain rfl := Option.some.inj H
       go_wp2_with (first | ((with_reducible refine gate_callee (f := 33) rfl ?_); refine goesL_ (some 119) rfl rfl Try.func33 (by kernel_rfl) rfl #[.slice Ao93 t1155.length co93, .int .i64 1] rfl zar3 ?_; (with_reducible refine (laws_heldIntS.calls kj91 _ _ t1155 1 t1172 _ ?side1 ?side2 A109.out).mono ?_); (case side1 => exact zar14); (case side2 => exact (Kd.R_reads' HO_12.out).2.1); rintro e w' ⟨rfl, ⟨nd, rfl⟩⟩; refine ⟨_, rfl, ?_⟩))
       go_ret
       exact ⟨zar17, zar1⟩

end Go.Proofs.Ythoklbeenjppbaa.Q

/- Written by a program of this session: functions of the translation as plain Lean functions, each with a proof that the call does what the plain function says; the conditions stand in each theorem. -/
import Derived.Test.YthoklbeenjppbaaQ0
import Derived.Test.YthoklbeenjppbaaQ1
import Derived.Test.YthoklbeenjppbaaQ2
import Derived.Test.YthoklbeenjppbaaQ5
import Derived.Test.YthoklbeenjppbaaQ31
import Derived.Test.YthoklbeenjppbaaQ44
namespace Go.Proofs.Ythoklbeenjppbaa.Q
open Go.RowKit Go.Proofs.YthoklbeenjppbaaW.PrintWords Go.Proofs.YthoklbeenjppbaaW.PrintLast Go.Proofs.YthoklbeenjppbaaW.PrintMore
attribute [local go_sem] max2_int min2_int max_two min_two max_three min_three max_four min_four   -- for this text's walks alone
set_option linter.unusedVariables false
set_option linter.unusedSimpArgs false

theorem zat1 {p : Prop} (h : p := by repeat (first | (with_reducible first | exact HB.out | apply below_alloc | apply pw_below_drewN | apply below_drew1 | refine below_set ?_ GE1199.out | refine below_set ?_ GE1200.out | refine below_set ?_ GE1221.out) | exact HB.out)) : p := h
theorem zat2 {p : Prop} (h : p := by (with_reducible repeat (first | refine blk_drewN ?_ _ | refine blk_drew ?_ | refine blk_alloc ?_ _)); exact BK1199.out) : p := h
theorem zat3 {p : Prop} (h : p := by (try simp only [List.map_toArray, List.map_cons, List.map_nil]); first | done | rfl | (simp only [List.length_drop, List.length_take]; rfl)) : p := h
theorem zat4 {p : Prop} (h : p := by (with_reducible repeat (first | refine blk_drewN ?_ _ | refine blk_drew ?_ | refine blk_alloc ?_ _)); exact BK1200.out) : p := h
theorem zat6 {p : Prop} (h : p := by repeat (first | (with_reducible first | exact HB.out | apply below_alloc | apply pw_below_drewN | apply below_drew1 | refine below_set ?_ GE1199.out | refine below_set ?_ GE1200.out) | exact HB.out)) : p := h
theorem zat7 {p : Prop} (h : p := by (with_reducible repeat (first | refine blk_drewN ?_ _ | refine blk_drew ?_ | refine blk_alloc ?_ _)); exact BK1221.out) : p := h
theorem zat8 {p : Prop} (h : p := by (with_reducible repeat (first | apply Kd.R_alloc | apply Kd.R_drewN | apply Kd.R_drew)); exact HO_1222002.out) : p := h
theorem zat9 {p : Prop} (h : p := by (with_reducible repeat (first | apply Kd.R_alloc | apply Kd.R_drewN | apply Kd.R_drew)); exact HO_12.out) : p := h
theorem zat10 {p : Prop} (h : p := by (with_reducible repeat (first | apply Kd.R_alloc | apply Kd.R_drewN | apply Kd.R_drew)); exact HO_8.out) : p := h
theorem zat11 {p : Prop} (h : p := by repeat (first | (with_reducible first | exact HB.out | apply below_alloc | apply pw_below_drewN | apply below_drew1 | refine below_set ?_ GE1199.out) | exact HB.out)) : p := h
theorem zat12 {p : Prop} (h : p := by (with_reducible repeat (first | apply Kd.R_alloc | apply Kd.R_drewN | apply Kd.R_drew)); exact HO_11.out) : p := h
theorem zat13 {p : Prop} (h : p := by repeat (first | exact (Kd.C_below HR0_2.out HB.out) | (with_reducible refine Kd.C_alloc ?_ _) | (with_reducible refine Kd.C_drewN ?_ _) | (with_reducible refine Kd.C_drew ?_))) : p := h
theorem zat14 {p : Prop} (h : p := by repeat (first | exact (Kd.R_reads' HO_12.out).2.2 | (with_reducible refine Kd.C_alloc ?_ _) | (with_reducible refine Kd.C_drewN ?_ _) | (with_reducible refine Kd.C_drew ?_))) : p := h
theorem zat15 {p : Prop} (h : p := by repeat (first | (with_reducible first | exact HB.out | apply below_alloc | apply pw_below_drewN | apply below_drew1) | exact HB.out)) : p := h
theorem zat16 {p : Prop} (h : p := by (with_reducible repeat (first | apply Kd.R_alloc | apply Kd.R_drewN | apply Kd.R_drew)); exact HO1206.out) : p := h
theorem zat17 {p : Prop} (h : p := by first | rfl | (simp [errW_none, errW_some] <;> rfl) | (simp [*, errW_none, errW_some] <;> rfl)) : p := h
theorem zat18 {p : Prop} (h : p := by (with_reducible repeat (first | apply Kd.R_alloc | apply Kd.R_drewN | apply Kd.R_drew)); exact HO1211.out) : p := h
theorem zat19 {p : Prop} (h : p := by (with_reducible repeat (first | apply Kd.R_alloc | apply Kd.R_drewN | apply Kd.R_drew)); exact HO1236.out) : p := h
theorem zat20 {p : Prop} (h : p := by (with_reducible repeat (first | apply Kd.R_alloc | apply Kd.R_drewN | apply Kd.R_drew)); exact HO1214.out) : p := h
theorem zat21 {p : Prop} (h : p := by repeat (first | exact (Kd.C_below HR2.out HB.out) | (with_reducible refine Kd.C_alloc ?_ _) | (with_reducible refine Kd.C_drewN ?_ _) | (with_reducible refine Kd.C_drew ?_))) : p := h
theorem zat22 {p : Prop} (h : p := by repeat (first | exact (Kd.R_reads' HO_8.out).2.2 | (with_reducible refine Kd.C_alloc ?_ _) | (with_reducible refine Kd.C_drewN ?_ _) | (with_reducible refine Kd.C_drew ?_))) : p := h
theorem zat23 {p : Prop} (h : p := by (try simp only [List.map_toArray, List.map_cons, List.map_nil]); first | done | (rw [show t1248.length = t1227.length from (Kd.R_reads' HO_12.out).1.symm] <;> rfl) | rfl | (simp only [List.length_drop, List.length_take]; rfl)) : p := h
theorem zat24 {p : Prop} (h : p := by (with_reducible repeat (first | apply Kd.R_alloc | apply Kd.R_drewN | apply Kd.R_drew)); exact (Kd.R_mono (Kd.R_far (p := ⟨gb1221, 2, none⟩) (Kd.R_far (p := ⟨gb1221, 1, none⟩) (Kd.R_far (p := ⟨gb1221, 0, none⟩) (Kd.R_types HO1220.out BK1221.out (by decide)) (fun _ hk => hk.2) (.int .i64 t1216)) (fun _ hk => hk.2) (.int .i64 t1217)) (fun _ hk => hk.2) (.slice Ao41 t1218.length co41)) (fun _ h_ => h_.1))) : p := h
theorem zat25 {p : Prop} (h : p := by (with_reducible repeat (first | apply Kd.R_alloc | apply Kd.R_drewN | apply Kd.R_drew)); exact (Kd.R_mono (Kd.R_far (p := ⟨gb1221, 2, none⟩) (Kd.R_far (p := ⟨gb1221, 1, none⟩) (Kd.R_far (p := ⟨gb1221, 0, none⟩) (Kd.R_types HO1214.out BK1221.out (by decide)) (fun _ hk => hk.2) (.int .i64 t1216)) (fun _ hk => hk.2) (.int .i64 t1217)) (fun _ hk => hk.2) (.slice Ao41 t1218.length co41)) (fun _ h_ => h_.1))) : p := h
theorem zat26 {p : Prop} (h : p := by (with_reducible repeat (first | apply Kd.R_alloc | apply Kd.R_drewN | apply Kd.R_drew)); exact (Kd.R_mono (Kd.R_far (p := ⟨gb1221, 2, none⟩) (Kd.R_far (p := ⟨gb1221, 1, none⟩) (Kd.R_far (p := ⟨gb1221, 0, none⟩) (Kd.R_types HO1211.out BK1221.out (by decide)) (fun _ hk => hk.2) (.int .i64 t1216)) (fun _ hk => hk.2) (.int .i64 t1217)) (fun _ hk => hk.2) (.slice Ao41 t1218.length co41)) (fun _ h_ => h_.1))) : p := h
theorem zat27 {p : Prop} (h : p := by (with_reducible repeat (first | apply Kd.R_alloc | apply Kd.R_drewN | apply Kd.R_drew)); exact (Kd.R_mono (Kd.R_far (p := ⟨gb1221, 2, none⟩) (Kd.R_far (p := ⟨gb1221, 1, none⟩) (Kd.R_far (p := ⟨gb1221, 0, none⟩) (Kd.R_types HO1206.out BK1221.out (by decide)) (fun _ hk => hk.2) (.int .i64 t1216)) (fun _ hk => hk.2) (.int .i64 t1217)) (fun _ hk => hk.2) (.slice Ao41 t1218.length co41)) (fun _ h_ => h_.1))) : p := h
theorem zat28 {p : Prop} (h : p := by (with_reducible repeat (first | apply Kd.R_alloc | apply Kd.R_drewN | apply Kd.R_drew)); exact HO1254.out) : p := h
theorem zat29 {p : Prop} (h : p := by repeat (first | exact (Kd.R_reads' HO_1222002.out).2.2 | (with_reducible refine Kd.C_alloc ?_ _) | (with_reducible refine Kd.C_drewN ?_ _) | (with_reducible refine Kd.C_drew ?_))) : p := h
theorem zat30 {p : Prop} (h : p := by repeat (first | exact (Kd.R_reads' HO1236.out).2.2 | (with_reducible refine Kd.C_alloc ?_ _) | (with_reducible refine Kd.C_drewN ?_ _) | (with_reducible refine Kd.C_drew ?_))) : p := h
theorem zat31 {p : Prop} (h : p := by (with_reducible repeat (first | apply Kd.R_alloc | apply Kd.R_drewN | apply Kd.R_drew)); exact HO1220.out) : p := h
theorem zat32 {p : Prop} (h : p := by (with_reducible repeat (first | apply Kd.R_alloc | apply Kd.R_drewN | apply Kd.R_drew)); exact Kd.R_mono HO_1222002.out (fun _ hk => ⟨hk.1, hk.2.2.1⟩)) : p := h
theorem zat33 {p : Prop} (h : p := by (with_reducible repeat (first | apply Kd.R_alloc | apply Kd.R_drewN | apply Kd.R_drew)); exact Kd.R_mono HO_8.out (fun _ hk => ⟨hk.2.1, hk.2.2.1⟩)) : p := h
theorem zat34 {p : Prop} (h : p := by (with_reducible repeat (first | apply Kd.R_alloc | apply Kd.R_drewN | apply Kd.R_drew)); exact Kd.R_mono HO_12.out (fun _ hk => ⟨hk.1, hk.2.2.1⟩)) : p := h
theorem zat35 {p : Prop} (h : p := by first | rfl | (simp; done) | (simp [*]; done)) : p := h
theorem zat36 {p : Prop} (h : p := by (with_reducible repeat (first | apply Kd.R_alloc | apply Kd.R_drewN | apply Kd.R_drew)); exact HO1224.out) : p := h
theorem zat37 {p : Prop} (h : p := by rw [show t1248.length = t1227.length from (Kd.R_reads' HO_12.out).1.symm]; exact (Kd.R_reads' HO_12.out).2.1) : p := h
theorem zat38 {p : Prop} (h : p := by (try simp only [hl1222002_61]); (with_reducible repeat (first | apply Kd.R_alloc | apply Kd.R_drewN | apply Kd.R_drew)); exact Kd.R_mono HO_1222002.out (fun _ hk => hk.1.1.1.2)) : p := h
theorem zat39 {p : Prop} (h : p := by (try simp only [hl1222002_61]); (with_reducible repeat (first | apply Kd.R_alloc | apply Kd.R_drewN | apply Kd.R_drew)); exact Kd.R_mono HO_12.out (fun _ hk => hk.1.1.1.2)) : p := h
theorem zat40 {p : Prop} (h : p := by (with_reducible repeat (first | apply Kd.R_alloc | apply Kd.R_drewN | apply Kd.R_drew)); exact Kd.R_mono HO1229.out (fun _ hk => ⟨hk.1.1.2, ⟨hk.2, hk.1.2⟩⟩)) : p := h
theorem zat41 {p : Prop} (h : p := by (with_reducible repeat (first | apply Kd.R_alloc | apply Kd.R_drewN | apply Kd.R_drew)); exact Kd.R_mono HO1224.out (fun _ hk => ⟨hk.1.1.2, ⟨hk.2, hk.1.2⟩⟩)) : p := h
theorem zat42 {p : Prop} (h : p := by (with_reducible repeat (first | apply Kd.R_alloc | apply Kd.R_drewN | apply Kd.R_drew)); exact Kd.R_mono HO1220.out (fun _ hk => ⟨hk.1.1.2, ⟨hk.1.2, hk.2⟩⟩)) : p := h
theorem zat43 {p : Prop} (h : p := by (with_reducible repeat (first | apply Kd.R_alloc | apply Kd.R_drewN | apply Kd.R_drew)); exact Kd.R_mono HO1214.out (fun _ hk => ⟨hk.1.2, ⟨hk.2, hk.1.1.2⟩⟩)) : p := h
theorem zat44 {p : Prop} (h : p := by repeat (first | exact (Kd.R_reads' HO1262.out).2.2 | (with_reducible refine Kd.C_alloc ?_ _) | (with_reducible refine Kd.C_drewN ?_ _) | (with_reducible refine Kd.C_drew ?_))) : p := h
theorem zat45 {p : Prop} (h : p := by repeat (first | exact (Kd.R_reads' HO1240.out).2.2 | (with_reducible refine Kd.C_alloc ?_ _) | (with_reducible refine Kd.C_drewN ?_ _) | (with_reducible refine Kd.C_drew ?_))) : p := h
theorem zat46 {p : Prop} (h : p := by repeat (first | exact (Kd.R_reads' HO1229.out).2.2 | (with_reducible refine Kd.C_alloc ?_ _) | (with_reducible refine Kd.C_drewN ?_ _) | (with_reducible refine Kd.C_drew ?_))) : p := h
theorem zat47 {p : Prop} (h : p := by repeat (first | exact (Kd.R_reads' HO1214.out).2.2 | (with_reducible refine Kd.C_alloc ?_ _) | (with_reducible refine Kd.C_drewN ?_ _) | (with_reducible refine Kd.C_drew ?_))) : p := h
theorem zat48 {p : Prop} (h : p := by repeat (first | exact (Kd.R_reads' HO_11.out).2.2 | (with_reducible refine Kd.C_alloc ?_ _) | (with_reducible refine Kd.C_drewN ?_ _) | (with_reducible refine Kd.C_drew ?_))) : p := h
theorem zat49 {p : Prop} (h : p := by (try simp only [hl1222002_61]); (with_reducible repeat (first | refine blk_drewN ?_ _ | refine blk_drew ?_ | refine blk_alloc ?_ _)); exact BK1221.out) : p := h
theorem zat50 {p : Prop} (h : p := by (try simp only [hl1222002_61]); (with_reducible repeat (first | refine blk_drewN ?_ _ | refine blk_drew ?_ | refine blk_alloc ?_ _)); exact BK1200.out) : p := h
theorem zat51 {p : Prop} (h : p := by (try simp only [hl1222002_61]); (with_reducible repeat (first | refine blk_drewN ?_ _ | refine blk_drew ?_ | refine blk_alloc ?_ _)); exact BK1199.out) : p := h
theorem zat52 {p : Prop} (h : p := by rw [hg]; exact Nat.ne_of_lt (blk_lt (g := gb1199) (o := .cells #[.int .i64 a0_0, .int .i64 a0_1, .slice A0_2 l0_2.length c0_2] 24 (0, 0)) zat2)) : p := h
theorem zat53 {p : Prop} (h : p := by rw [hg]; exact Nat.ne_of_gt (blk_lt (g := gb1199) (o := .cells #[.int .i64 a0_0, .int .i64 a0_1, .slice A0_2 l0_2.length c0_2] 24 (0, 0)) zat2)) : p := h
theorem zat54 {p : Prop} (h : p := by rw [hg]; exact (below_size zat15)) : p := h
theorem zat55 {p : Prop} (h : p := by rw [hg]; exact (below_size zat11)) : p := h
/-! ### laws_FnExactRowSumsOf: function 13 -/
mutual
def laws_FnExactRowSumsOf.j0 : Nat → List Int → List Int → Bool → List Int → List Int → Bool → Bool → Int → Int → List Int → Int → Int → Int → Int → List Int → Option (Bool)
 | 0, _, _, _, _, _, _, _, _, _, _, _, _, _, _, _ => none
 | k + 1, x2, x8, x9, x11, x12, x13, x57, x1200000, x1200001, x1200002, x1201000, x1201001, x1222000, x1222001, x1222002 => if x57 = true then (some false) else ((laws_toBoard.f k x1200000 x1200001 x1200002).bind fun bt1232 => ((laws_eqBoard.f k x1222000 x1222001 x1222002 bt1232.1 bt1232.2.1 bt1232.2.2).bind fun t1237 => (if t1237 = true then ((laws_toIntS.f k x2).bind fun t1238 => ((laws_eqIntS.f k x11 t1238).bind fun t1241 => (if t1241 = true then ((laws_markBoard.f k x1222000 x1222001 x1222002 1).bind fun bt1242 => ((laws_markIntS.f k x11 bt1242.1).bind fun bt1244 => (if bt1244.1 < 0 then (laws_FnExactRowSumsOf.j1 k x2 x8 x9 x12 true x1200000 x1200001 x1200002 x1201000 x1201001) else ((laws_eqIntS.f k x12 x8).bind fun t1246 => (if t1246 = true then (laws_FnExactRowSumsOf.j1 k x2 x8 x9 x12 (x13 != x9) x1200000 x1200001 x1200002 x1201000 x1201001) else (laws_FnExactRowSumsOf.j1 k x2 x8 x9 x12 true x1200000 x1200001 x1200002 x1201000 x1201001)))))) else (some false)))) else (some false))))
def laws_FnExactRowSumsOf.j1 : Nat → List Int → List Int → Bool → List Int → Bool → Int → Int → List Int → Int → Int → Option (Bool)
 | 0, _, _, _, _, _, _, _, _, _, _ => none
 | k + 1, x2, x8, x9, x12, x86, x1200000, x1200001, x1200002, x1201000, x1201001 => if x86 = true then (some false) else ((laws_markIntS.f k x12 1).bind fun bt1247 => ((laws_heldIntS.f k bt1247.2 1).bind fun t1249 => (if t1249 < 0 then (some false) else (if t1249 = bt1247.1 then ((laws_toBoard.f k x1200000 x1200001 x1200002).bind fun bt1250 => ((laws_toLeaper.f x1201000 x1201001).bind fun bt1255 => ((laws_toIntS.f k x2).bind fun t1257 => ((impl_RowSumsOf.f k bt1250.1 bt1250.2.1 bt1250.2.2 bt1255.1 bt1255.2 t1257).bind fun bt1260 => ((laws_eqIntS.f k bt1260.1 x8).bind fun t1264 => (if t1264 = true then (laws_FnExactRowSumsOf.j2 k bt1247.2 bt1247.1 (bt1260.2 != x9)) else (laws_FnExactRowSumsOf.j2 k bt1247.2 bt1247.1 true))))))) else (some false)))))
def laws_FnExactRowSumsOf.j2 : Nat → List Int → Int → Bool → Option (Bool)
 | 0, _, _, _ => none
 | k + 1, x12, x15, x116 => if x116 = true then (some false) else ((laws_heldIntS.f k x12 1).bind fun t1265 => (if t1265 < 0 then (some false) else (if t1265 = x15 then (some true) else (some false))))
end
def laws_FnExactRowSumsOf.f (k : Nat) (a0_0 : Int) (a0_1 : Int) (l0_2 : List Int) (a1_0 : Int) (a1_1 : Int) (l2 : List Int) : Option (Bool) := if (l2.length : Int) > 1048576 then (some true) else ((laws_szBoard.f a0_0 a0_1 l0_2 1048576).bind fun t1201 => (if t1201 < 0 then (some true) else ((laws_toBoard.f k a0_0 a0_1 l0_2).bind fun bt1202 => ((laws_toLeaper.f a1_0 a1_1).bind fun bt1207 => ((laws_toIntS.f k l2).bind fun t1209 => ((spec_RowSumsOf.f k bt1202.1 bt1202.2.1 bt1202.2.2 bt1207.1 bt1207.2 t1209).bind fun bt1212 => ((laws_toBoard.f k a0_0 a0_1 l0_2).bind fun bt1216 => ((laws_toIntS.f k l2).bind fun t1222 => ((laws_toLeaper.f a1_0 a1_1).bind fun bt1225 => ((impl_RowSumsOf.f k bt1216.1 bt1216.2.1 bt1216.2.2 bt1225.1 bt1225.2 t1222).bind fun bt1227 => ((laws_eqIntS.f k bt1227.1 bt1212.1).bind fun t1231 => (if t1231 = true then (laws_FnExactRowSumsOf.j0 k l2 bt1212.1 bt1212.2 t1222 bt1227.1 bt1227.2 (bt1227.2 != bt1212.2) a0_0 a0_1 l0_2 a1_0 a1_1 bt1216.1 bt1216.2.1 bt1216.2.2) else (laws_FnExactRowSumsOf.j0 k l2 bt1212.1 bt1212.2 t1222 bt1227.1 bt1227.2 true a0_0 a0_1 l0_2 a1_0 a1_1 bt1216.1 bt1216.2.1 bt1216.2.2)))))))))))))
def laws_FnExactRowSumsOf.T7 : Bool × List (List Nat × List Nat) := (true, [([], []), ([0], [0]), ([], []), ([2, 1], [2]), ([], []), ([4, 3], [4]), ([1, 3, 5, 5], [1, 3, 5]), ([6], [6]), ([7], [7]), ([7], [7]), ([8, 6, 0, 1, 2, 3, 4, 5, 6, 7, 8], [8]), ([9, 10, 0, 1, 2, 3, 4, 5, 6, 7, 8, 9, 10], [9])])
def laws_FnExactRowSumsOf.B7 : List Nat := [0, 1, 0, 7, 0, 31, 63, 127, 255, 255, 511, 2047]
theorem laws_FnExactRowSumsOf.tab7 : rtab .any (opsOf Try.f13 7) = laws_FnExactRowSumsOf.T7 := by kernel_rfl
theorem laws_FnExactRowSumsOf.bits7 : waitsOk laws_FnExactRowSumsOf.T7.2 laws_FnExactRowSumsOf.B7 = true := by kernel_rfl
def laws_FnExactRowSumsOf.T10 : Bool × List (List Nat × List Nat) := (true, [([], []), ([], []), ([1], [1]), ([], []), ([0, 2, 3, 2], [0, 2, 3]), ([4], [4]), ([5], [5]), ([5], [5]), ([6, 4, 0, 1, 2, 3, 4, 5, 6], [6]), ([7, 8, 0, 1, 2, 3, 4, 5, 6, 7, 8], [7])])
def laws_FnExactRowSumsOf.B10 : List Nat := [0, 0, 2, 0, 15, 31, 63, 63, 127, 511]
theorem laws_FnExactRowSumsOf.tab10 : rtab .any (opsOf Try.f13 10) = laws_FnExactRowSumsOf.T10 := by kernel_rfl
theorem laws_FnExactRowSumsOf.bits10 : waitsOk laws_FnExactRowSumsOf.T10.2 laws_FnExactRowSumsOf.B10 = true := by kernel_rfl
def laws_FnExactRowSumsOf.T30 : Bool × List (List Nat × List Nat) := (true, [([], []), ([0], [0]), ([], []), ([2, 1], [2]), ([], []), ([4, 3], [4]), ([1, 3, 5, 5], [1, 3, 5]), ([6], [6]), ([7], [7]), ([7], [7]), ([8, 6, 0, 1, 2, 3, 4, 5, 6, 7, 8], [8]), ([9, 10, 0, 1, 2, 3, 4, 5, 6, 7, 8, 9, 10], [9])])
def laws_FnExactRowSumsOf.B30 : List Nat := [0, 1, 0, 7, 0, 31, 63, 127, 255, 255, 511, 2047]
theorem laws_FnExactRowSumsOf.tab30 : rtab .any (opsOf Try.f13 30) = laws_FnExactRowSumsOf.T30 := by kernel_rfl
theorem laws_FnExactRowSumsOf.bits30 : waitsOk laws_FnExactRowSumsOf.T30.2 laws_FnExactRowSumsOf.B30 = true := by kernel_rfl
set_option maxHeartbeats 8000000 in
set_option maxRecDepth 100000 in
theorem laws_FnExactRowSumsOf.calls (k : Nat) (a0_0 : Int) (a0_1 : Int) (A0_2 : Option Addr) (c0_2 : Nat) (l0_2 : List Int) (a1_0 : Int) (a1_1 : Int) (A2 : Option Addr) (c2 : Nat) (l2 : List Int) (r : Bool) (w : World) (hr0_2 : Kd.C (Kd.int .i64) w A0_2 l0_2.length l0_2) (hc0_2 : l0_2.length ≤ c0_2) (hr2 : Kd.C (Kd.int .i64) w A2 l2.length l2) (hc2 : l2.length ≤ c2) (h : laws_FnExactRowSumsOf.f k a0_0 a0_1 l0_2 a1_0 a1_1 l2 = some r) :
  Calls Try.prog 13 #[.agg #[.int .i64 a0_0, .int .i64 a0_1, .slice A0_2 l0_2.length c0_2], .agg #[.int .i64 a1_0, .int .i64 a1_1], .slice A2 l2.length c2] w fun e w' => e = .returned (.bool r) ∧ Below w.heap.size w w' := by
 have hu24 := Try.underlying24
 have hu26 := Try.underlying26
 have hu30 := Try.underlying30
 have HR0_2 := Aside0.mk hr0_2
 have HC0_2 := Aside0.mk hc0_2
 clear hr0_2 hc0_2
 have HR2 := Aside0.mk hr2
 have HC2 := Aside0.mk hc2
 clear hr2 hc2
 have HB := Aside0.mk (Below.refl w.heap.size w)
 have H : (if (l2.length : Int) > 1048576 then (some true) else ((laws_szBoard.f a0_0 a0_1 l0_2 1048576).bind fun t1201 => (if t1201 < 0 then (some true) else ((laws_toBoard.f k a0_0 a0_1 l0_2).bind fun bt1202 => ((laws_toLeaper.f a1_0 a1_1).bind fun bt1207 => ((laws_toIntS.f k l2).bind fun t1209 => ((spec_RowSumsOf.f k bt1202.1 bt1202.2.1 bt1202.2.2 bt1207.1 bt1207.2 t1209).bind fun bt1212 => ((laws_toBoard.f k a0_0 a0_1 l0_2).bind fun bt1216 => ((laws_toIntS.f k l2).bind fun t1222 => ((laws_toLeaper.f a1_0 a1_1).bind fun bt1225 => ((impl_RowSumsOf.f k bt1216.1 bt1216.2.1 bt1216.2.2 bt1225.1 bt1225.2 t1222).bind fun bt1227 => ((laws_eqIntS.f k bt1227.1 bt1212.1).bind fun t1231 => (if t1231 = true then (laws_FnExactRowSumsOf.j0 k l2 bt1212.1 bt1212.2 t1222 bt1227.1 bt1227.2 (bt1227.2 != bt1212.2) a0_0 a0_1 l0_2 a1_0 a1_1 bt1216.1 bt1216.2.1 bt1216.2.2) else (laws_FnExactRowSumsOf.j0 k l2 bt1212.1 bt1212.2 t1222 bt1227.1 bt1227.2 true a0_0 a0_1 l0_2 a1_0 a1_1 bt1216.1 bt1216.2.1 bt1216.2.2)))))))))))))) = some r := h
 clear h
 by_cases c4 : (l2.length : Int) > 1048576
 ·rw [if_pos c4] at H
  have c4b0 : decide (1048576 < (l2.length : Int)) = true := decide_eq_true c4
  have c4b1 : decide (1048576 < l2.length) = true := decide_eq_true (by omega)
  clear c4
  obtain rfl := Option.some.inj H
  go_enter Try.func13, Try.ntmps13
  go_wp2_with (first | ((with_reducible refine gate_dst (N := 3) rfl ?_); refine box_event ?hg (N := 3) ?hd (cs := #[.int .i64 a0_0, .int .i64 a0_1, .slice A0_2 l0_2.length c0_2]) (t := 24) ?hr ?_; (case hd => rfl); (case hg => rfl); (case hr => first | (go_simp; done) | (go_simp; rfl)); intro gb1199 hg w5 hbox hb; have n0_ := Aside0.mk (below_step zat15 hb); have n1_ := Aside0.mk (hbox); have n2_ := Aside0.mk ((zat54 : w.heap.size ≤ gb1199)); have n3_ := Aside0.mk ((zat54 : w.heap.size ≤ gb1199)); clear HB; have HB := n0_; have BK1199 := n1_; have GW1199 := n2_; have GE1199 := n3_; clear n0_ n1_ n2_ n3_; clear hb hbox hg) | ((with_reducible refine gate_dst (N := 4) rfl ?_); refine box_event ?hg (N := 4) ?hd (cs := #[.int .i64 a1_0, .int .i64 a1_1]) (t := 26) ?hr ?_; (case hd => rfl); (case hg => rfl); (case hr => first | (go_simp; done) | (go_simp; rfl)); intro gb1200 hg w6 hbox hb; have n0_ := Aside0.mk (blk_below (g := gb1199) (o := .cells #[.int .i64 a0_0, .int .i64 a0_1, .slice A0_2 l0_2.length c0_2] 24 (0, 0)) zat2 hb); have n1_ := Aside0.mk (below_step zat11 hb); have n2_ := Aside0.mk (hbox); have n3_ := Aside0.mk ((zat55 : w.heap.size ≤ gb1200)); have n4_ := Aside0.mk ((zat55 : w.heap.size ≤ gb1200)); have n5_ := Aside0.mk ((zat52 : gb1199 ≠ gb1200)); have n6_ := Aside0.mk ((zat53 : gb1200 ≠ gb1199)); clear BK1199; clear HB; have BK1199 := n0_; have HB := n1_; have BK1200 := n2_; have GW1200 := n3_; have GE1200 := n4_; have NB1199_1200 := n5_; have NB1200_1199 := n6_; clear n0_ n1_ n2_ n3_ n4_ n5_ n6_; clear hb hbox hg))
  go_ret
  exact ⟨zat17, zat6⟩
 rw [if_neg c4] at H
 have c4b0 : decide (1048576 < (l2.length : Int)) = false := decide_eq_false c4
 have c4b1 : decide (1048576 < l2.length) = false := decide_eq_false (by omega)
 clear c4
 replace H := Option.bind_eq_some_iff.mp H
 obtain ⟨t1201, A70, H⟩ := H
 replace H : (if t1201 < 0 then (some true) else ((laws_toBoard.f k a0_0 a0_1 l0_2).bind fun bt1202 => ((laws_toLeaper.f a1_0 a1_1).bind fun bt1207 => ((laws_toIntS.f k l2).bind fun t1209 => ((spec_RowSumsOf.f k bt1202.1 bt1202.2.1 bt1202.2.2 bt1207.1 bt1207.2 t1209).bind fun bt1212 => ((laws_toBoard.f k a0_0 a0_1 l0_2).bind fun bt1216 => ((laws_toIntS.f k l2).bind fun t1222 => ((laws_toLeaper.f a1_0 a1_1).bind fun bt1225 => ((impl_RowSumsOf.f k bt1216.1 bt1216.2.1 bt1216.2.2 bt1225.1 bt1225.2 t1222).bind fun bt1227 => ((laws_eqIntS.f k bt1227.1 bt1212.1).bind fun t1231 => (if t1231 = true then (laws_FnExactRowSumsOf.j0 k l2 bt1212.1 bt1212.2 t1222 bt1227.1 bt1227.2 (bt1227.2 != bt1212.2) a0_0 a0_1 l0_2 a1_0 a1_1 bt1216.1 bt1216.2.1 bt1216.2.2) else (laws_FnExactRowSumsOf.j0 k l2 bt1212.1 bt1212.2 t1222 bt1227.1 bt1227.2 true a0_0 a0_1 l0_2 a1_0 a1_1 bt1216.1 bt1216.2.1 bt1216.2.2)))))))))))) = some r := H
 have A7 := Aside0.mk A70
 clear A70
 by_cases c8 : t1201 < 0
 ·rw [if_pos c8] at H
  have c8b0 : decide (t1201 < 0) = true := decide_eq_true c8
  clear c8
  obtain rfl := Option.some.inj H
  go_enter Try.func13, Try.ntmps13
  go_wp2_with (first | ((with_reducible refine gate_dst (N := 3) rfl ?_); refine box_event ?hg (N := 3) ?hd (cs := #[.int .i64 a0_0, .int .i64 a0_1, .slice A0_2 l0_2.length c0_2]) (t := 24) ?hr ?_; (case hd => rfl); (case hg => rfl); (case hr => first | (go_simp; done) | (go_simp; rfl)); intro gb1199 hg w9 hbox hb; have n0_ := Aside0.mk (below_step zat15 hb); have n1_ := Aside0.mk (hbox); have n2_ := Aside0.mk ((zat54 : w.heap.size ≤ gb1199)); have n3_ := Aside0.mk ((zat54 : w.heap.size ≤ gb1199)); clear HB; have HB := n0_; have BK1199 := n1_; have GW1199 := n2_; have GE1199 := n3_; clear n0_ n1_ n2_ n3_; clear hb hbox hg) | ((with_reducible refine gate_dst (N := 4) rfl ?_); refine box_event ?hg (N := 4) ?hd (cs := #[.int .i64 a1_0, .int .i64 a1_1]) (t := 26) ?hr ?_; (case hd => rfl); (case hg => rfl); (case hr => first | (go_simp; done) | (go_simp; rfl)); intro gb1200 hg w10 hbox hb; have n0_ := Aside0.mk (blk_below (g := gb1199) (o := .cells #[.int .i64 a0_0, .int .i64 a0_1, .slice A0_2 l0_2.length c0_2] 24 (0, 0)) zat2 hb); have n1_ := Aside0.mk (below_step zat11 hb); have n2_ := Aside0.mk (hbox); have n3_ := Aside0.mk ((zat55 : w.heap.size ≤ gb1200)); have n4_ := Aside0.mk ((zat55 : w.heap.size ≤ gb1200)); have n5_ := Aside0.mk ((zat52 : gb1199 ≠ gb1200)); have n6_ := Aside0.mk ((zat53 : gb1200 ≠ gb1199)); clear BK1199; clear HB; have BK1199 := n0_; have HB := n1_; have BK1200 := n2_; have GW1200 := n3_; have GE1200 := n4_; have NB1199_1200 := n5_; have NB1200_1199 := n6_; clear n0_ n1_ n2_ n3_ n4_ n5_ n6_; clear hb hbox hg; have hnb11 := NB1199_1200.out; have hnc11 := NB1200_1199.out; have hcz12_0 : w10.cell? ⟨gb1199, 0, none⟩ = some (.int .i64 a0_0) := (blk_cell BK1199.out 0).trans rfl; have hcz12_1 : w10.cell? ⟨gb1199, 1, none⟩ = some (.int .i64 a0_1) := (blk_cell BK1199.out 1).trans rfl; have hcz12_2 : w10.cell? ⟨gb1199, 2, none⟩ = some (.slice A0_2 l0_2.length c0_2) := (blk_cell BK1199.out 2).trans rfl; have hfz12_0 := blk_frozen BK1199.out 0; have hfz12_1 := blk_frozen BK1199.out 1; have hfz12_2 := blk_frozen BK1199.out 2) | ((with_reducible refine gate_callee (f := 15) rfl ?_); refine goesL_ (some 24) rfl rfl Try.func15 (by kernel_rfl) rfl #[.agg #[.int .i64 a0_0, .int .i64 a0_1, .slice A0_2 l0_2.length c0_2], .int .i64 1048576] rfl zat3 ?_; (with_reducible refine (laws_szBoard.calls a0_0 a0_1 _ _ l0_2 1048576 t1201 _ ?side1 ?side2 A7.out).mono ?_); (case side1 => exact zat13); (case side2 => exact HC0_2.out); rintro e w13 ⟨rfl, hb⟩; refine ⟨_, rfl, ?_⟩; have n0_ := Aside0.mk (blk_below (g := gb1199) (o := .cells #[.int .i64 a0_0, .int .i64 a0_1, .slice A0_2 l0_2.length c0_2] 24 (0, 0)) zat2 hb); have n1_ := Aside0.mk (blk_below (g := gb1200) (o := .cells #[.int .i64 a1_0, .int .i64 a1_1] 26 (0, 0)) zat4 hb); have n2_ := Aside0.mk (below_step zat6 hb); clear BK1199; clear BK1200; clear HB; have BK1199 := n0_; have BK1200 := n1_; have HB := n2_; clear n0_ n1_ n2_; (try clear hb); (try clear hb2); (try clear hk); (try clear hi); (try clear hna_); (try clear hnb_)))
  go_ret
  exact ⟨zat17, zat6⟩
 rw [if_neg c8] at H
 have c8b0 : decide (t1201 < 0) = false := decide_eq_false c8
 clear c8
 replace H := Option.bind_eq_some_iff.mp H
 obtain ⟨⟨t1202, t1203, t1204⟩, A140, H⟩ := H
 replace H : ((laws_toLeaper.f a1_0 a1_1).bind fun bt1207 => ((laws_toIntS.f k l2).bind fun t1209 => ((spec_RowSumsOf.f k t1202 t1203 t1204 bt1207.1 bt1207.2 t1209).bind fun bt1212 => ((laws_toBoard.f k a0_0 a0_1 l0_2).bind fun bt1216 => ((laws_toIntS.f k l2).bind fun t1222 => ((laws_toLeaper.f a1_0 a1_1).bind fun bt1225 => ((impl_RowSumsOf.f k bt1216.1 bt1216.2.1 bt1216.2.2 bt1225.1 bt1225.2 t1222).bind fun bt1227 => ((laws_eqIntS.f k bt1227.1 bt1212.1).bind fun t1231 => (if t1231 = true then (laws_FnExactRowSumsOf.j0 k l2 bt1212.1 bt1212.2 t1222 bt1227.1 bt1227.2 (bt1227.2 != bt1212.2) a0_0 a0_1 l0_2 a1_0 a1_1 bt1216.1 bt1216.2.1 bt1216.2.2) else (laws_FnExactRowSumsOf.j0 k l2 bt1212.1 bt1212.2 t1222 bt1227.1 bt1227.2 true a0_0 a0_1 l0_2 a1_0 a1_1 bt1216.1 bt1216.2.1 bt1216.2.2)))))))))) = some r := H
 have A14 := Aside0.mk A140
 clear A140
 replace H := Option.bind_eq_some_iff.mp H
 obtain ⟨⟨t1207, t1208⟩, A150, H⟩ := H
 replace H : ((laws_toIntS.f k l2).bind fun t1209 => ((spec_RowSumsOf.f k t1202 t1203 t1204 t1207 t1208 t1209).bind fun bt1212 => ((laws_toBoard.f k a0_0 a0_1 l0_2).bind fun bt1216 => ((laws_toIntS.f k l2).bind fun t1222 => ((laws_toLeaper.f a1_0 a1_1).bind fun bt1225 => ((impl_RowSumsOf.f k bt1216.1 bt1216.2.1 bt1216.2.2 bt1225.1 bt1225.2 t1222).bind fun bt1227 => ((laws_eqIntS.f k bt1227.1 bt1212.1).bind fun t1231 => (if t1231 = true then (laws_FnExactRowSumsOf.j0 k l2 bt1212.1 bt1212.2 t1222 bt1227.1 bt1227.2 (bt1227.2 != bt1212.2) a0_0 a0_1 l0_2 a1_0 a1_1 bt1216.1 bt1216.2.1 bt1216.2.2) else (laws_FnExactRowSumsOf.j0 k l2 bt1212.1 bt1212.2 t1222 bt1227.1 bt1227.2 true a0_0 a0_1 l0_2 a1_0 a1_1 bt1216.1 bt1216.2.1 bt1216.2.2))))))))) = some r := H
 have A15 := Aside0.mk A150
 clear A150
 replace H := Option.bind_eq_some_iff.mp H
 obtain ⟨t1209, A160, H⟩ := H
 replace H : ((spec_RowSumsOf.f k t1202 t1203 t1204 t1207 t1208 t1209).bind fun bt1212 => ((laws_toBoard.f k a0_0 a0_1 l0_2).bind fun bt1216 => ((laws_toIntS.f k l2).bind fun t1222 => ((laws_toLeaper.f a1_0 a1_1).bind fun bt1225 => ((impl_RowSumsOf.f k bt1216.1 bt1216.2.1 bt1216.2.2 bt1225.1 bt1225.2 t1222).bind fun bt1227 => ((laws_eqIntS.f k bt1227.1 bt1212.1).bind fun t1231 => (if t1231 = true then (laws_FnExactRowSumsOf.j0 k l2 bt1212.1 bt1212.2 t1222 bt1227.1 bt1227.2 (bt1227.2 != bt1212.2) a0_0 a0_1 l0_2 a1_0 a1_1 bt1216.1 bt1216.2.1 bt1216.2.2) else (laws_FnExactRowSumsOf.j0 k l2 bt1212.1 bt1212.2 t1222 bt1227.1 bt1227.2 true a0_0 a0_1 l0_2 a1_0 a1_1 bt1216.1 bt1216.2.1 bt1216.2.2)))))))) = some r := H
 have A16 := Aside0.mk A160
 clear A160
 replace H := Option.bind_eq_some_iff.mp H
 obtain ⟨⟨t1212, t1215⟩, A170, H⟩ := H
 replace H : ((laws_toBoard.f k a0_0 a0_1 l0_2).bind fun bt1216 => ((laws_toIntS.f k l2).bind fun t1222 => ((laws_toLeaper.f a1_0 a1_1).bind fun bt1225 => ((impl_RowSumsOf.f k bt1216.1 bt1216.2.1 bt1216.2.2 bt1225.1 bt1225.2 t1222).bind fun bt1227 => ((laws_eqIntS.f k bt1227.1 t1212).bind fun t1231 => (if t1231 = true then (laws_FnExactRowSumsOf.j0 k l2 t1212 t1215 t1222 bt1227.1 bt1227.2 (bt1227.2 != t1215) a0_0 a0_1 l0_2 a1_0 a1_1 bt1216.1 bt1216.2.1 bt1216.2.2) else (laws_FnExactRowSumsOf.j0 k l2 t1212 t1215 t1222 bt1227.1 bt1227.2 true a0_0 a0_1 l0_2 a1_0 a1_1 bt1216.1 bt1216.2.1 bt1216.2.2))))))) = some r := H
 have A17 := Aside0.mk A170
 clear A170
 replace H := Option.bind_eq_some_iff.mp H
 obtain ⟨⟨t1216, t1217, t1218⟩, A180, H⟩ := H
 replace H : ((laws_toIntS.f k l2).bind fun t1222 => ((laws_toLeaper.f a1_0 a1_1).bind fun bt1225 => ((impl_RowSumsOf.f k t1216 t1217 t1218 bt1225.1 bt1225.2 t1222).bind fun bt1227 => ((laws_eqIntS.f k bt1227.1 t1212).bind fun t1231 => (if t1231 = true then (laws_FnExactRowSumsOf.j0 k l2 t1212 t1215 t1222 bt1227.1 bt1227.2 (bt1227.2 != t1215) a0_0 a0_1 l0_2 a1_0 a1_1 t1216 t1217 t1218) else (laws_FnExactRowSumsOf.j0 k l2 t1212 t1215 t1222 bt1227.1 bt1227.2 true a0_0 a0_1 l0_2 a1_0 a1_1 t1216 t1217 t1218)))))) = some r := H
 have A18 := Aside0.mk A180
 clear A180
 replace H := Option.bind_eq_some_iff.mp H
 obtain ⟨t1222, A190, H⟩ := H
 replace H : ((laws_toLeaper.f a1_0 a1_1).bind fun bt1225 => ((impl_RowSumsOf.f k t1216 t1217 t1218 bt1225.1 bt1225.2 t1222).bind fun bt1227 => ((laws_eqIntS.f k bt1227.1 t1212).bind fun t1231 => (if t1231 = true then (laws_FnExactRowSumsOf.j0 k l2 t1212 t1215 t1222 bt1227.1 bt1227.2 (bt1227.2 != t1215) a0_0 a0_1 l0_2 a1_0 a1_1 t1216 t1217 t1218) else (laws_FnExactRowSumsOf.j0 k l2 t1212 t1215 t1222 bt1227.1 bt1227.2 true a0_0 a0_1 l0_2 a1_0 a1_1 t1216 t1217 t1218))))) = some r := H
 have A19 := Aside0.mk A190
 clear A190
 replace H := Option.bind_eq_some_iff.mp H
 obtain ⟨⟨t1225, t1226⟩, A200, H⟩ := H
 replace H : ((impl_RowSumsOf.f k t1216 t1217 t1218 t1225 t1226 t1222).bind fun bt1227 => ((laws_eqIntS.f k bt1227.1 t1212).bind fun t1231 => (if t1231 = true then (laws_FnExactRowSumsOf.j0 k l2 t1212 t1215 t1222 bt1227.1 bt1227.2 (bt1227.2 != t1215) a0_0 a0_1 l0_2 a1_0 a1_1 t1216 t1217 t1218) else (laws_FnExactRowSumsOf.j0 k l2 t1212 t1215 t1222 bt1227.1 bt1227.2 true a0_0 a0_1 l0_2 a1_0 a1_1 t1216 t1217 t1218)))) = some r := H
 have A20 := Aside0.mk A200
 clear A200
 replace H := Option.bind_eq_some_iff.mp H
 obtain ⟨⟨t1227, t1230⟩, A210, H⟩ := H
 replace H : ((laws_eqIntS.f k t1227 t1212).bind fun t1231 => (if t1231 = true then (laws_FnExactRowSumsOf.j0 k l2 t1212 t1215 t1222 t1227 t1230 (t1230 != t1215) a0_0 a0_1 l0_2 a1_0 a1_1 t1216 t1217 t1218) else (laws_FnExactRowSumsOf.j0 k l2 t1212 t1215 t1222 t1227 t1230 true a0_0 a0_1 l0_2 a1_0 a1_1 t1216 t1217 t1218))) = some r := H
 have A21 := Aside0.mk A210
 clear A210
 have HC22 := Aside0.mk H
 clear H
 go_enter Try.func13, Try.ntmps13
 try go_wp2_with (first | ((with_reducible refine gate_dst (N := 3) rfl ?_); refine box_event ?hg (N := 3) ?hd (cs := #[.int .i64 a0_0, .int .i64 a0_1, .slice A0_2 l0_2.length c0_2]) (t := 24) ?hr ?_; (case hd => rfl); (case hg => rfl); (case hr => first | (go_simp; done) | (go_simp; rfl)); intro gb1199 hg w23 hbox hb; have n0_ := Aside0.mk (below_step zat15 hb); have n1_ := Aside0.mk (hbox); have n2_ := Aside0.mk ((zat54 : w.heap.size ≤ gb1199)); have n3_ := Aside0.mk ((zat54 : w.heap.size ≤ gb1199)); clear HB; have HB := n0_; have BK1199 := n1_; have GW1199 := n2_; have GE1199 := n3_; clear n0_ n1_ n2_ n3_; clear hb hbox hg) | ((with_reducible refine gate_dst (N := 4) rfl ?_); refine box_event ?hg (N := 4) ?hd (cs := #[.int .i64 a1_0, .int .i64 a1_1]) (t := 26) ?hr ?_; (case hd => rfl); (case hg => rfl); (case hr => first | (go_simp; done) | (go_simp; rfl)); intro gb1200 hg w24 hbox hb; have n0_ := Aside0.mk (blk_below (g := gb1199) (o := .cells #[.int .i64 a0_0, .int .i64 a0_1, .slice A0_2 l0_2.length c0_2] 24 (0, 0)) zat2 hb); have n1_ := Aside0.mk (below_step zat11 hb); have n2_ := Aside0.mk (hbox); have n3_ := Aside0.mk ((zat55 : w.heap.size ≤ gb1200)); have n4_ := Aside0.mk ((zat55 : w.heap.size ≤ gb1200)); have n5_ := Aside0.mk ((zat52 : gb1199 ≠ gb1200)); have n6_ := Aside0.mk ((zat53 : gb1200 ≠ gb1199)); clear BK1199; clear HB; have BK1199 := n0_; have HB := n1_; have BK1200 := n2_; have GW1200 := n3_; have GE1200 := n4_; have NB1199_1200 := n5_; have NB1200_1199 := n6_; clear n0_ n1_ n2_ n3_ n4_ n5_ n6_; clear hb hbox hg; have hnb25 := NB1199_1200.out; have hnc25 := NB1200_1199.out; have hcz26_0 : w24.cell? ⟨gb1199, 0, none⟩ = some (.int .i64 a0_0) := (blk_cell BK1199.out 0).trans rfl; have hcz26_1 : w24.cell? ⟨gb1199, 1, none⟩ = some (.int .i64 a0_1) := (blk_cell BK1199.out 1).trans rfl; have hcz26_2 : w24.cell? ⟨gb1199, 2, none⟩ = some (.slice A0_2 l0_2.length c0_2) := (blk_cell BK1199.out 2).trans rfl; have hfz26_0 := blk_frozen BK1199.out 0; have hfz26_1 := blk_frozen BK1199.out 1; have hfz26_2 := blk_frozen BK1199.out 2) | ((with_reducible refine gate_callee (f := 15) rfl ?_); refine goesL_ (some 24) rfl rfl Try.func15 (by kernel_rfl) rfl #[.agg #[.int .i64 a0_0, .int .i64 a0_1, .slice A0_2 l0_2.length c0_2], .int .i64 1048576] rfl zat3 ?_; (with_reducible refine (laws_szBoard.calls a0_0 a0_1 _ _ l0_2 1048576 t1201 _ ?side1 ?side2 A7.out).mono ?_); (case side1 => exact zat13); (case side2 => exact HC0_2.out); rintro e w27 ⟨rfl, hb⟩; refine ⟨_, rfl, ?_⟩; have n0_ := Aside0.mk (blk_below (g := gb1199) (o := .cells #[.int .i64 a0_0, .int .i64 a0_1, .slice A0_2 l0_2.length c0_2] 24 (0, 0)) zat2 hb); have n1_ := Aside0.mk (blk_below (g := gb1200) (o := .cells #[.int .i64 a1_0, .int .i64 a1_1] 26 (0, 0)) zat4 hb); have n2_ := Aside0.mk (below_step zat6 hb); clear BK1199; clear BK1200; clear HB; have BK1199 := n0_; have BK1200 := n1_; have HB := n2_; clear n0_ n1_ n2_; (try clear hb); (try clear hb2); (try clear hk); (try clear hi); (try clear hna_); (try clear hnb_)))
 have n0_ := Aside0.mk (blk_drew BK1199.out)
 have n1_ := Aside0.mk (blk_drew BK1200.out)
 have n2_ := Aside0.mk (below_drew1 HB.out)
 clear BK1199
 clear BK1200
 clear HB
 have BK1199 := n0_
 have BK1200 := n1_
 have HB := n2_
 clear n0_ n1_ n2_
 refine start_ (n := 12) (S := fun w' => w'.cell? ⟨gb1199, 0, none⟩ = some (.int .i64 a0_0) ∧ w'.cell? ⟨gb1199, 1, none⟩ = some (.int .i64 a0_1) ∧ w'.cell? ⟨gb1199, 2, none⟩ = some (.slice A0_2 l0_2.length c0_2) ∧ w'.cell? ⟨gb1200, 0, none⟩ = some (.int .i64 a1_0) ∧ w'.cell? ⟨gb1200, 1, none⟩ = some (.int .i64 a1_1)) (ds := []) #[false, false, false, false, false, false, false, false, false, false, false, false] (by kernel_rfl) rfl rfl ⟨(blk_cell BK1199.out 0).trans rfl, (blk_cell BK1199.out 1).trans rfl, (blk_cell BK1199.out 2).trans rfl, (blk_cell BK1200.out 0).trans rfl, (blk_cell BK1200.out 1).trans rfl⟩ (fun hHeld => ?_); refine with_tabW laws_FnExactRowSumsOf.tab7 laws_FnExactRowSumsOf.bits7 (fun HT_ HW_ => ?_)
 generalize w27.drew = w28 at BK1199 BK1200 HB hHeld ⊢
 refine pure_ (i := 4) (N := some 32) (v := ?_) (a' := ?_) #[false, false, false, false, true, false, false, false, false, false, false, false] rfl rfl (any_of HT_.out (by kernel_rfl)) (fun _ _ _ h => h) (Or.inl ⟨by rfl, ?_⟩) ?_ ?_
 rotate_left
 ·intro w'
  go_simp
  with_reducible rfl
 rotate_left
 ·simp only [Act.put, List.setIfInBounds_toArray, List.set_cons_zero, List.set_cons_succ, i64_w, i32_w]
  rfl
 refine take_ (i := 0) (N := some 28) (v := ?_) (a' := ?_) #[true, false, false, false, true, false, false, false, false, false, false, false] rfl rfl (take_ofW HT_.out HW_.out (by kernel_rfl)) (fun _ _ _ h => h) (Or.inl ⟨by rfl, ?_⟩) hHeld ?_ ?_
 rotate_left
 ·rintro w' ⟨s0, s1, s2, s3, s4⟩
  go_simp
  with_reducible rfl
 rotate_left
 ·simp only [Act.put, List.setIfInBounds_toArray, List.set_cons_zero, List.set_cons_succ, i64_w, i32_w]
  rfl
 refine take_ (i := 2) (N := some 30) (v := ?_) (a' := ?_) #[true, false, true, false, true, false, false, false, false, false, false, false] rfl rfl (take_ofW HT_.out HW_.out (by kernel_rfl)) (fun _ _ _ h => h) (Or.inl ⟨by rfl, ?_⟩) hHeld ?_ ?_
 rotate_left
 ·rintro w' ⟨s0, s1, s2, s3, s4⟩
  go_simp
  with_reducible rfl
 rotate_left
 ·simp only [Act.put, List.setIfInBounds_toArray, List.set_cons_zero, List.set_cons_succ, i64_w, i32_w]
  rfl
 refine one_ (i := 1) (N := some 29) #[true, true, true, false, true, false, false, false, false, false, false, false] rfl rfl (one_of HT_.out (by kernel_rfl)) (by decide) (fun K hK => ?_)
 refine goes_ Try.func17 (by kernel_rfl) rfl #[.agg #[.int .i64 a0_0, .int .i64 a0_1, .slice A0_2 l0_2.length c0_2]] (by rfl) rfl rfl zat3 ?_
 with_reducible refine (laws_toBoard.calls k a0_0 a0_1 _ _ l0_2 t1202 t1203 t1204 _ ?side1 ?side2 A14.out).mono ?_
 (case side1 => exact zat13)
 (case side2 => exact HC0_2.out)
 rintro e w29 ⟨v1205, rfl, ho0, hb⟩
 refine ⟨_, rfl, ?_⟩
 have n0_ := Aside0.mk (Kd.R_lower ho0 (below_size zat6))
 have n1_ := Aside0.mk (blk_below (g := gb1199) (o := .cells #[.int .i64 a0_0, .int .i64 a0_1, .slice A0_2 l0_2.length c0_2] 24 (0, 0)) zat2 hb)
 have n2_ := Aside0.mk (blk_below (g := gb1200) (o := .cells #[.int .i64 a1_0, .int .i64 a1_1] 26 (0, 0)) zat4 hb)
 have n3_ := Aside0.mk (below_step zat6 hb)
 clear BK1199
 clear BK1200
 clear HB
 have HO1206 := n0_
 have BK1199 := n1_
 have BK1200 := n2_
 have HB := n3_
 clear n0_ n1_ n2_ n3_
 (try clear hb)
 (try clear hb2)
 (try clear hk)
 (try clear hi)
 (try clear ho0)
 (try clear hna_)
 (try clear hnb_)
 refine hK.out _ _ ⟨(blk_cell BK1199.out 0).trans rfl, (blk_cell BK1199.out 1).trans rfl, (blk_cell BK1199.out 2).trans rfl, (blk_cell BK1200.out 0).trans rfl, (blk_cell BK1200.out 1).trans rfl⟩ (fun hHeld => ?_)
 clear hK K
 refine norm_ (a' := ?_) ?_ ?_
 rotate_left
 ·show Act.put _ (some 29) _ = _
  simp only [Act.put, List.setIfInBounds_toArray, List.set_cons_zero, List.set_cons_succ, i64_w, i32_w]
  rfl
 refine one_ (i := 3) (N := some 31) #[true, true, true, true, true, false, false, false, false, false, false, false] rfl rfl (one_of HT_.out (by kernel_rfl)) (by decide) (fun K hK => ?_)
 refine goes_ Try.func18 (by kernel_rfl) rfl #[.agg #[.int .i64 a1_0, .int .i64 a1_1]] (by rfl) rfl rfl zat3 ?_
 with_reducible refine (laws_toLeaper.calls a1_0 a1_1 t1207 t1208 _ A15.out).mono ?_
 rintro e w30 ⟨rfl, hb⟩
 refine ⟨_, rfl, ?_⟩
 have n0_ := Aside0.mk (Kd.R_below zat16 hb)
 have n1_ := Aside0.mk (blk_below (g := gb1199) (o := .cells #[.int .i64 a0_0, .int .i64 a0_1, .slice A0_2 l0_2.length c0_2] 24 (0, 0)) zat2 hb)
 have n2_ := Aside0.mk (blk_below (g := gb1200) (o := .cells #[.int .i64 a1_0, .int .i64 a1_1] 26 (0, 0)) zat4 hb)
 have n3_ := Aside0.mk (below_step zat6 hb)
 clear HO1206
 clear BK1199
 clear BK1200
 clear HB
 have HO1206 := n0_
 have BK1199 := n1_
 have BK1200 := n2_
 have HB := n3_
 clear n0_ n1_ n2_ n3_
 (try clear hb)
 (try clear hb2)
 (try clear hk)
 (try clear hi)
 (try clear hna_)
 (try clear hnb_)
 refine hK.out _ _ ⟨(blk_cell BK1199.out 0).trans rfl, (blk_cell BK1199.out 1).trans rfl, (blk_cell BK1199.out 2).trans rfl, (blk_cell BK1200.out 0).trans rfl, (blk_cell BK1200.out 1).trans rfl⟩ (fun hHeld => ?_)
 clear hK K
 refine norm_ (a' := ?_) ?_ ?_
 rotate_left
 ·show Act.put _ (some 31) _ = _
  simp only [Act.put, List.setIfInBounds_toArray, List.set_cons_zero, List.set_cons_succ, i64_w, i32_w]
  rfl
 refine one_ (i := 5) (N := some 33) #[true, true, true, true, true, true, false, false, false, false, false, false] rfl rfl (one_of HT_.out (by kernel_rfl)) (by decide) (fun K hK => ?_)
 refine goes_ Try.func19 (by kernel_rfl) rfl #[.slice A2 l2.length c2] (by rfl) rfl rfl zat3 ?_
 with_reducible refine (laws_toIntS.calls k _ _ l2 t1209 _ ?side1 ?side2 A16.out).mono ?_
 (case side1 => exact zat21)
 (case side2 => exact HC2.out)
 rintro e w31 ⟨v1210, rfl, ho0, hb⟩
 refine ⟨_, rfl, ?_⟩
 have n0_ := Aside0.mk (Kd.R_elder' zat16 (Kd.R_base ho0) hb)
 have n1_ := Aside0.mk (Kd.R_lower (Kd.R_new' ho0 (Kd.R_lt zat16)) (below_size zat6))
 have n2_ := Aside0.mk (blk_below (g := gb1199) (o := .cells #[.int .i64 a0_0, .int .i64 a0_1, .slice A0_2 l0_2.length c0_2] 24 (0, 0)) zat2 hb)
 have n3_ := Aside0.mk (blk_below (g := gb1200) (o := .cells #[.int .i64 a1_0, .int .i64 a1_1] 26 (0, 0)) zat4 hb)
 have n4_ := Aside0.mk (below_step zat6 hb)
 clear HO1206
 clear BK1199
 clear BK1200
 clear HB
 have HO1206 := n0_
 have HO1211 := n1_
 have BK1199 := n2_
 have BK1200 := n3_
 have HB := n4_
 clear n0_ n1_ n2_ n3_ n4_
 (try clear hb)
 (try clear hb2)
 (try clear hk)
 (try clear hi)
 (try clear ho0)
 (try clear hna_)
 (try clear hnb_)
 obtain ⟨Ao32, co32, eo32⟩ := Kd.R_slice HO1206.out
 (first | subst eo32 | (injection eo32 with f1_ f2_ f3_; have f4_ := f1_.symm; have f5_ := f3_.symm; clear f1_ f2_ f3_; subst f4_; subst f5_))
 obtain ⟨Ao33, co33, eo33⟩ := Kd.R_slice HO1211.out
 (first | subst eo33 | (injection eo33 with f1_ f2_ f3_; have f4_ := f1_.symm; have f5_ := f3_.symm; clear f1_ f2_ f3_; subst f4_; subst f5_))
 refine hK.out _ _ ⟨(blk_cell BK1199.out 0).trans rfl, (blk_cell BK1199.out 1).trans rfl, (blk_cell BK1199.out 2).trans rfl, (blk_cell BK1200.out 0).trans rfl, (blk_cell BK1200.out 1).trans rfl⟩ (fun hHeld => ?_)
 clear hK K
 refine norm_ (a' := ?_) ?_ ?_
 rotate_left
 ·show Act.put _ (some 33) _ = _
  simp only [Act.put, List.setIfInBounds_toArray, List.set_cons_zero, List.set_cons_succ, i64_w, i32_w]
  rfl
 refine one_ (i := 6) (N := some 34) #[true, true, true, true, true, true, true, false, false, false, false, false] rfl rfl (one_of HT_.out (by kernel_rfl)) (by decide) (fun K hK => ?_)
 refine goes_ Try.func44 (by kernel_rfl) rfl #[.agg #[.int .i64 t1202, .int .i64 t1203, .slice Ao32 t1204.length co32], .agg #[.int .i64 t1207, .int .i64 t1208], .slice Ao33 t1209.length co33] (by rfl) rfl rfl zat3 ?_
 with_reducible refine (spec_RowSumsOf.calls k t1202 t1203 _ _ t1204 t1207 t1208 _ _ t1209 t1212 t1215 _ ?side1 ?side2 ?side3 ?side4 A17.out).mono ?_
 (case side1 => repeat (first | exact (Kd.R_reads' HO1206.out).2.2 | (with_reducible refine Kd.C_alloc ?_ _) | (with_reducible refine Kd.C_drewN ?_ _) | (with_reducible refine Kd.C_drew ?_)))
 (case side2 => exact (Kd.R_reads' HO1206.out).2.1)
 (case side3 => repeat (first | exact (Kd.R_reads' HO1211.out).2.2 | (with_reducible refine Kd.C_alloc ?_ _) | (with_reducible refine Kd.C_drewN ?_ _) | (with_reducible refine Kd.C_drew ?_)))
 (case side4 => exact (Kd.R_reads' HO1211.out).2.1)
 rintro e w34 ⟨v1213, rfl, ho0, hb⟩
 refine ⟨_, rfl, ?_⟩
 have n0_ := Aside0.mk (Kd.R_elder' zat16 (Kd.R_base ho0) hb)
 have n1_ := Aside0.mk (Kd.R_elder' zat18 (Kd.R_base ho0) hb)
 have n2_ := Aside0.mk (Kd.R_lower (Kd.R_new' (Kd.R_new' ho0 (Kd.R_lt zat16)) (Kd.R_lt zat18)) (below_size zat6))
 have n3_ := Aside0.mk (blk_below (g := gb1199) (o := .cells #[.int .i64 a0_0, .int .i64 a0_1, .slice A0_2 l0_2.length c0_2] 24 (0, 0)) zat2 hb)
 have n4_ := Aside0.mk (blk_below (g := gb1200) (o := .cells #[.int .i64 a1_0, .int .i64 a1_1] 26 (0, 0)) zat4 hb)
 have n5_ := Aside0.mk (below_step zat6 hb)
 clear HO1206
 clear HO1211
 clear BK1199
 clear BK1200
 clear HB
 have HO1206 := n0_
 have HO1211 := n1_
 have HO1214 := n2_
 have BK1199 := n3_
 have BK1200 := n4_
 have HB := n5_
 clear n0_ n1_ n2_ n3_ n4_ n5_
 (try clear hb)
 (try clear hb2)
 (try clear hk)
 (try clear hi)
 (try clear ho0)
 (try clear hna_)
 (try clear hnb_)
 refine hK.out _ _ ⟨(blk_cell BK1199.out 0).trans rfl, (blk_cell BK1199.out 1).trans rfl, (blk_cell BK1199.out 2).trans rfl, (blk_cell BK1200.out 0).trans rfl, (blk_cell BK1200.out 1).trans rfl⟩ (fun hHeld => ?_)
 clear hK K
 refine norm_ (a' := ?_) ?_ ?_
 rotate_left
 ·show Act.put _ (some 34) _ = _
  simp only [Act.put, List.setIfInBounds_toArray, List.set_cons_zero, List.set_cons_succ, i64_w, i32_w]
  rfl
 refine pure_ (i := 7) (N := some 27) (v := ?_) (a' := ?_) #[true, true, true, true, true, true, true, true, false, false, false, false] rfl rfl (any_of HT_.out (by kernel_rfl)) (fun _ _ _ h => h) (Or.inl ⟨by rfl, ?_⟩) ?_ ?_
 rotate_left
 ·intro w'
  go_simp
  with_reducible rfl
 rotate_left
 ·simp only [Act.put, List.setIfInBounds_toArray, List.set_cons_zero, List.set_cons_succ, i64_w, i32_w]
  rfl
 refine pure_ (i := 8) (N := some 35) (v := ?_) (a' := ?_) #[true, true, true, true, true, true, true, true, true, false, false, false] rfl rfl (any_of HT_.out (by kernel_rfl)) (fun _ _ _ h => h) (Or.inl ⟨by rfl, ?_⟩) ?_ ?_
 rotate_left
 ·intro w'
  go_simp
  with_reducible rfl
 rotate_left
 ·simp only [Act.put, List.setIfInBounds_toArray, List.set_cons_zero, List.set_cons_succ, i64_w, i32_w]
  rfl
 refine pure_ (i := 9) (N := some 36) (v := ?_) (a' := ?_) #[true, true, true, true, true, true, true, true, true, true, false, false] rfl rfl (any_of HT_.out (by kernel_rfl)) (fun _ _ _ h => h) (Or.inl ⟨by rfl, ?_⟩) ?_ ?_
 rotate_left
 ·intro w'
  go_simp
  with_reducible rfl
 rotate_left
 ·simp only [Act.put, List.setIfInBounds_toArray, List.set_cons_zero, List.set_cons_succ, i64_w, i32_w]
  rfl
 refine pure_ (i := 10) (N := some 8) (v := ?_) (a' := ?_) #[true, true, true, true, true, true, true, true, true, true, true, false] rfl rfl (any_of HT_.out (by kernel_rfl)) (fun _ _ _ h => h) (Or.inl ⟨by rfl, ?_⟩) ?_ ?_
 rotate_left
 ·intro w'
  go_simp
  with_reducible rfl
 rotate_left
 ·simp only [Act.put, List.setIfInBounds_toArray, List.set_cons_zero, List.set_cons_succ, i64_w, i32_w]
  rfl
 refine pure_ (i := 11) (N := some 9) (v := ?_) (a' := ?_) #[true, true, true, true, true, true, true, true, true, true, true, true] rfl rfl (any_of HT_.out (by kernel_rfl)) (fun _ _ _ h => h) (Or.inl ⟨by rfl, ?_⟩) ?_ ?_
 rotate_left
 ·intro w'
  go_simp
  with_reducible rfl
 rotate_left
 ·simp only [Act.put, List.setIfInBounds_toArray, List.set_cons_zero, List.set_cons_succ, i64_w, i32_w]
  rfl
 refine done_ (done_of HT_.out (by kernel_rfl)) ?_
 have hcz35_0 : w34.cell? ⟨gb1199, 0, none⟩ = some (.int .i64 a0_0) := (blk_cell BK1199.out 0).trans rfl
 have hcz35_1 : w34.cell? ⟨gb1199, 1, none⟩ = some (.int .i64 a0_1) := (blk_cell BK1199.out 1).trans rfl
 have hcz35_2 : w34.cell? ⟨gb1199, 2, none⟩ = some (.slice A0_2 l0_2.length c0_2) := (blk_cell BK1199.out 2).trans rfl
 have hfz35_0 := blk_frozen BK1199.out 0
 have hfz35_1 := blk_frozen BK1199.out 1
 have hfz35_2 := blk_frozen BK1199.out 2
 try go_wp2_with (first | ((with_reducible refine gate_callee (f := 17) rfl ?_); refine goesL_ (some 38) rfl rfl Try.func17 (by kernel_rfl) rfl #[.agg #[.int .i64 a0_0, .int .i64 a0_1, .slice A0_2 l0_2.length c0_2]] rfl zat3 ?_; (with_reducible refine (laws_toBoard.calls k a0_0 a0_1 _ _ l0_2 t1216 t1217 t1218 _ ?side1 ?side2 A18.out).mono ?_); (case side1 => exact zat13); (case side2 => exact HC0_2.out); rintro e w36 ⟨v1219, rfl, ho0, hb⟩; refine ⟨_, rfl, ?_⟩; have n0_ := Aside0.mk (Kd.R_elder' zat16 (Kd.R_base ho0) hb); have n1_ := Aside0.mk (Kd.R_elder' zat18 (Kd.R_base ho0) hb); have n2_ := Aside0.mk (Kd.R_elder' zat20 (Kd.R_base ho0) hb); have n3_ := Aside0.mk (Kd.R_lower (Kd.R_new' (Kd.R_new' (Kd.R_new' ho0 (Kd.R_lt zat16)) (Kd.R_lt zat18)) (Kd.R_lt zat20)) (below_size zat6)); have n4_ := Aside0.mk (blk_below (g := gb1199) (o := .cells #[.int .i64 a0_0, .int .i64 a0_1, .slice A0_2 l0_2.length c0_2] 24 (0, 0)) zat2 hb); have n5_ := Aside0.mk (blk_below (g := gb1200) (o := .cells #[.int .i64 a1_0, .int .i64 a1_1] 26 (0, 0)) zat4 hb); have n6_ := Aside0.mk (below_step zat6 hb); clear HO1206; clear HO1211; clear HO1214; clear BK1199; clear BK1200; clear HB; have HO1206 := n0_; have HO1211 := n1_; have HO1214 := n2_; have HO1220 := n3_; have BK1199 := n4_; have BK1200 := n5_; have HB := n6_; clear n0_ n1_ n2_ n3_ n4_ n5_ n6_; (try clear hb); (try clear hb2); (try clear hk); (try clear hi); (try clear ho0); (try clear hna_); (try clear hnb_)) | ((with_reducible refine gate_dst (N := 10) rfl ?_); refine box_event ?hg (N := 10) ?hd (cs := #[.int .i64 0, .int .i64 0, .slice none 0 0]) (t := 30) ?hr ?_; (case hd => rfl); (case hg => rfl); (case hr => first | (go_simp; done) | (go_simp; rfl)); intro gb1221 hg w37 hbox hb; have n0_ := Aside0.mk (Kd.R_below zat16 hb); have n1_ := Aside0.mk (Kd.R_below zat18 hb); have n2_ := Aside0.mk (Kd.R_below zat20 hb); have n3_ := Aside0.mk (Kd.R_below zat31 hb); have n4_ := Aside0.mk (blk_below (g := gb1199) (o := .cells #[.int .i64 a0_0, .int .i64 a0_1, .slice A0_2 l0_2.length c0_2] 24 (0, 0)) zat2 hb); have n5_ := Aside0.mk (blk_below (g := gb1200) (o := .cells #[.int .i64 a1_0, .int .i64 a1_1] 26 (0, 0)) zat4 hb); have n6_ := Aside0.mk (below_step zat6 hb); have n7_ := Aside0.mk (hbox); have n8_ := Aside0.mk ((by rw [hg]; exact (below_size zat6) : w.heap.size ≤ gb1221)); have n9_ := Aside0.mk ((by rw [hg]; exact (below_size zat6) : w.heap.size ≤ gb1221)); have n10_ := Aside0.mk ((zat52 : gb1199 ≠ gb1221)); have n11_ := Aside0.mk ((zat53 : gb1221 ≠ gb1199)); have n12_ := Aside0.mk ((by rw [hg]; exact Nat.ne_of_lt (blk_lt (g := gb1200) (o := .cells #[.int .i64 a1_0, .int .i64 a1_1] 26 (0, 0)) zat4) : gb1200 ≠ gb1221)); have n13_ := Aside0.mk ((by rw [hg]; exact Nat.ne_of_gt (blk_lt (g := gb1200) (o := .cells #[.int .i64 a1_0, .int .i64 a1_1] 26 (0, 0)) zat4) : gb1221 ≠ gb1200)); clear HO1206; clear HO1211; clear HO1214; clear HO1220; clear BK1199; clear BK1200; clear HB; have HO1206 := n0_; have HO1211 := n1_; have HO1214 := n2_; have HO1220 := n3_; have BK1199 := n4_; have BK1200 := n5_; have HB := n6_; have BK1221 := n7_; have GW1221 := n8_; have GE1221 := n9_; have NB1199_1221 := n10_; have NB1221_1199 := n11_; have NB1200_1221 := n12_; have NB1221_1200 := n13_; clear n0_ n1_ n2_ n3_ n4_ n5_ n6_ n7_ n8_ n9_ n10_ n11_ n12_ n13_; clear hb hbox hg; have hnb38 := NB1221_1199.out; have hnc38 := NB1199_1221.out; have hnb39 := NB1221_1200.out; have hnc39 := NB1200_1221.out; have hcz40_0 : w37.cell? ⟨gb1221, 0, none⟩ = some (.int .i64 0) := (blk_cell BK1221.out 0).trans rfl; have hcz40_1 : w37.cell? ⟨gb1221, 1, none⟩ = some (.int .i64 0) := (blk_cell BK1221.out 1).trans rfl; have hcz40_2 : w37.cell? ⟨gb1221, 2, none⟩ = some (.slice none 0 0) := (blk_cell BK1221.out 2).trans rfl; have hfz40_0 := blk_frozen BK1221.out 0; have hfz40_1 := blk_frozen BK1221.out 1; have hfz40_2 := blk_frozen BK1221.out 2; obtain ⟨Ao41, co41, eo41⟩ := Kd.R_slice HO1220.out; subst eo41) | ((with_reducible refine gate_callee (f := 19) rfl ?_); refine goesL_ (some 40) rfl rfl Try.func19 (by kernel_rfl) rfl #[.slice A2 l2.length c2] rfl zat3 ?_; (with_reducible refine (laws_toIntS.calls k _ _ l2 t1222 _ ?side1 ?side2 A19.out).mono ?_); (case side1 => exact Kd.C_below HR2.out zat1); (case side2 => exact HC2.out); rintro e w42 ⟨v1223, rfl, ho0, hb⟩; refine ⟨_, rfl, ?_⟩; have n0_ := Aside0.mk (Kd.R_elder' zat27 (Kd.R_base ho0) hb); have n1_ := Aside0.mk (Kd.R_elder' zat26 (Kd.R_base ho0) hb); have n2_ := Aside0.mk (Kd.R_elder' zat25 (Kd.R_base ho0) hb); have n3_ := Aside0.mk (Kd.R_elder' zat24 (Kd.R_base ho0) hb); have n4_ := Aside0.mk (Kd.R_lower (Kd.R_new' (Kd.R_new' (Kd.R_new' (Kd.R_new' ho0 (Kd.R_lt zat27)) (Kd.R_lt zat26)) (Kd.R_lt zat25)) (Kd.R_lt zat24)) (below_size zat1)); have n5_ := Aside0.mk (blk_below (g := gb1199) (o := .cells #[.int .i64 a0_0, .int .i64 a0_1, .slice A0_2 l0_2.length c0_2] 24 (0, 0)) (by (with_reducible repeat (first | refine blk_drewN ?_ _ | refine blk_drew ?_ | refine blk_alloc ?_ _)); refine blk_far ?_ NB1199_1221.out _; (with_reducible repeat (first | refine blk_drewN ?_ _ | refine blk_drew ?_ | refine blk_alloc ?_ _)); refine blk_far ?_ NB1199_1221.out _; (with_reducible repeat (first | refine blk_drewN ?_ _ | refine blk_drew ?_ | refine blk_alloc ?_ _)); refine blk_far ?_ NB1199_1221.out _; (with_reducible repeat (first | refine blk_drewN ?_ _ | refine blk_drew ?_ | refine blk_alloc ?_ _)); exact BK1199.out) hb); have n6_ := Aside0.mk (blk_below (g := gb1200) (o := .cells #[.int .i64 a1_0, .int .i64 a1_1] 26 (0, 0)) (by (with_reducible repeat (first | refine blk_drewN ?_ _ | refine blk_drew ?_ | refine blk_alloc ?_ _)); refine blk_far ?_ NB1200_1221.out _; (with_reducible repeat (first | refine blk_drewN ?_ _ | refine blk_drew ?_ | refine blk_alloc ?_ _)); refine blk_far ?_ NB1200_1221.out _; (with_reducible repeat (first | refine blk_drewN ?_ _ | refine blk_drew ?_ | refine blk_alloc ?_ _)); refine blk_far ?_ NB1200_1221.out _; (with_reducible repeat (first | refine blk_drewN ?_ _ | refine blk_drew ?_ | refine blk_alloc ?_ _)); exact BK1200.out) hb); have n7_ := Aside0.mk (blk_below (g := gb1221) (o := .cells #[.int .i64 t1216, .int .i64 t1217, .slice Ao41 t1218.length co41] 30 (0, 0)) (by (with_reducible repeat (first | refine blk_drewN ?_ _ | refine blk_drew ?_ | refine blk_alloc ?_ _)); refine blk_put (cs := #[.int .i64 t1216, .int .i64 t1217, .slice none 0 0]) ?_ 2 _ rfl; (with_reducible repeat (first | refine blk_drewN ?_ _ | refine blk_drew ?_ | refine blk_alloc ?_ _)); refine blk_put (cs := #[.int .i64 t1216, .int .i64 0, .slice none 0 0]) ?_ 1 _ rfl; (with_reducible repeat (first | refine blk_drewN ?_ _ | refine blk_drew ?_ | refine blk_alloc ?_ _)); refine blk_put (cs := #[.int .i64 0, .int .i64 0, .slice none 0 0]) ?_ 0 _ rfl; (with_reducible repeat (first | refine blk_drewN ?_ _ | refine blk_drew ?_ | refine blk_alloc ?_ _)); exact BK1221.out) hb); have n8_ := Aside0.mk (below_step zat1 hb); clear HO1206; clear HO1211; clear HO1214; clear HO1220; clear BK1199; clear BK1200; clear BK1221; clear HB; have HO1206 := n0_; have HO1211 := n1_; have HO1214 := n2_; have HO1220 := n3_; have HO1224 := n4_; have BK1199 := n5_; have BK1200 := n6_; have BK1221 := n7_; have HB := n8_; clear n0_ n1_ n2_ n3_ n4_ n5_ n6_ n7_ n8_; (try clear hb); (try clear hb2); (try clear hk); (try clear hi); (try clear ho0); (try clear hna_); (try clear hnb_)))
 have n0_ := Aside0.mk (Kd.R_drew HO1206.out)
 have n1_ := Aside0.mk (Kd.R_drew HO1211.out)
 have n2_ := Aside0.mk (Kd.R_drew HO1214.out)
 have n3_ := Aside0.mk (Kd.R_drew HO1220.out)
 have n4_ := Aside0.mk (Kd.R_drew HO1224.out)
 have n5_ := Aside0.mk (blk_drew BK1199.out)
 have n6_ := Aside0.mk (blk_drew BK1200.out)
 have n7_ := Aside0.mk (blk_drew BK1221.out)
 have n8_ := Aside0.mk (below_drew1 HB.out)
 clear HO1206
 clear HO1211
 clear HO1214
 clear HO1220
 clear HO1224
 clear BK1199
 clear BK1200
 clear BK1221
 clear HB
 have HO1206 := n0_
 have HO1211 := n1_
 have HO1214 := n2_
 have HO1220 := n3_
 have HO1224 := n4_
 have BK1199 := n5_
 have BK1200 := n6_
 have BK1221 := n7_
 have HB := n8_
 clear n0_ n1_ n2_ n3_ n4_ n5_ n6_ n7_ n8_
 refine start_ (n := 10) (S := fun w' => w'.cell? ⟨gb1221, 0, none⟩ = some (.int .i64 t1216) ∧ w'.cell? ⟨gb1221, 1, none⟩ = some (.int .i64 t1217) ∧ w'.cell? ⟨gb1221, 2, none⟩ = some (.slice Ao41 t1218.length co41) ∧ w'.cell? ⟨gb1200, 0, none⟩ = some (.int .i64 a1_0) ∧ w'.cell? ⟨gb1200, 1, none⟩ = some (.int .i64 a1_1)) (ds := []) #[false, false, false, false, false, false, false, false, false, false] (by kernel_rfl) rfl rfl ⟨(blk_cell BK1221.out 0).trans rfl, (blk_cell BK1221.out 1).trans rfl, (blk_cell BK1221.out 2).trans rfl, (blk_cell BK1200.out 0).trans rfl, (blk_cell BK1200.out 1).trans rfl⟩ (fun hHeld => ?_); refine with_tabW laws_FnExactRowSumsOf.tab10 laws_FnExactRowSumsOf.bits10 (fun HT_ HW_ => ?_)
 generalize w42.drew = w43 at HO1206 HO1211 HO1214 HO1220 HO1224 BK1199 BK1200 BK1221 HB hHeld ⊢
 refine pure_ (i := 3) (N := some 45) (v := ?_) (a' := ?_) #[false, false, false, true, false, false, false, false, false, false] rfl rfl (any_of HT_.out (by kernel_rfl)) (fun _ _ _ h => h) (Or.inl ⟨by rfl, ?_⟩) ?_ ?_
 rotate_left
 ·intro w'
  go_simp
  with_reducible rfl
 rotate_left
 ·simp only [Act.put, List.setIfInBounds_toArray, List.set_cons_zero, List.set_cons_succ, i64_w, i32_w]
  rfl
 refine take_ (i := 0) (N := some 42) (v := ?_) (a' := ?_) #[true, false, false, true, false, false, false, false, false, false] rfl rfl (take_ofW HT_.out HW_.out (by kernel_rfl)) (fun _ _ _ h => h) (Or.inl ⟨by rfl, ?_⟩) hHeld ?_ ?_
 rotate_left
 ·rintro w' ⟨s0, s1, s2, s3, s4⟩
  go_simp
  with_reducible rfl
 rotate_left
 ·simp only [Act.put, List.setIfInBounds_toArray, List.set_cons_zero, List.set_cons_succ, i64_w, i32_w]
  rfl
 refine take_ (i := 1) (N := some 43) (v := ?_) (a' := ?_) #[true, true, false, true, false, false, false, false, false, false] rfl rfl (take_ofW HT_.out HW_.out (by kernel_rfl)) (fun _ _ _ h => h) (Or.inl ⟨by rfl, ?_⟩) hHeld ?_ ?_
 rotate_left
 ·rintro w' ⟨s0, s1, s2, s3, s4⟩
  go_simp
  with_reducible rfl
 rotate_left
 ·simp only [Act.put, List.setIfInBounds_toArray, List.set_cons_zero, List.set_cons_succ, i64_w, i32_w]
  rfl
 refine one_ (i := 2) (N := some 44) #[true, true, true, true, false, false, false, false, false, false] rfl rfl (one_of HT_.out (by kernel_rfl)) (by decide) (fun K hK => ?_)
 refine goes_ Try.func18 (by kernel_rfl) rfl #[.agg #[.int .i64 a1_0, .int .i64 a1_1]] (by rfl) rfl rfl zat3 ?_
 with_reducible refine (laws_toLeaper.calls a1_0 a1_1 t1225 t1226 _ A20.out).mono ?_
 rintro e w44 ⟨rfl, hb⟩
 refine ⟨_, rfl, ?_⟩
 have n0_ := Aside0.mk (Kd.R_below zat16 hb)
 have n1_ := Aside0.mk (Kd.R_below zat18 hb)
 have n2_ := Aside0.mk (Kd.R_below zat20 hb)
 have n3_ := Aside0.mk (Kd.R_below zat31 hb)
 have n4_ := Aside0.mk (Kd.R_below zat36 hb)
 have n5_ := Aside0.mk (blk_below (g := gb1199) (o := .cells #[.int .i64 a0_0, .int .i64 a0_1, .slice A0_2 l0_2.length c0_2] 24 (0, 0)) zat2 hb)
 have n6_ := Aside0.mk (blk_below (g := gb1200) (o := .cells #[.int .i64 a1_0, .int .i64 a1_1] 26 (0, 0)) zat4 hb)
 have n7_ := Aside0.mk (blk_below (g := gb1221) (o := .cells #[.int .i64 t1216, .int .i64 t1217, .slice Ao41 t1218.length co41] 30 (0, 0)) zat7 hb)
 have n8_ := Aside0.mk (below_step zat1 hb)
 clear HO1206
 clear HO1211
 clear HO1214
 clear HO1220
 clear HO1224
 clear BK1199
 clear BK1200
 clear BK1221
 clear HB
 have HO1206 := n0_
 have HO1211 := n1_
 have HO1214 := n2_
 have HO1220 := n3_
 have HO1224 := n4_
 have BK1199 := n5_
 have BK1200 := n6_
 have BK1221 := n7_
 have HB := n8_
 clear n0_ n1_ n2_ n3_ n4_ n5_ n6_ n7_ n8_
 (try clear hb)
 (try clear hb2)
 (try clear hk)
 (try clear hi)
 (try clear hna_)
 (try clear hnb_)
 obtain ⟨Ao45, co45, eo45⟩ := Kd.R_slice HO1224.out
 (first | subst eo45 | (injection eo45 with f1_ f2_ f3_; have f4_ := f1_.symm; have f5_ := f3_.symm; clear f1_ f2_ f3_; subst f4_; subst f5_))
 refine hK.out _ _ ⟨(blk_cell BK1221.out 0).trans rfl, (blk_cell BK1221.out 1).trans rfl, (blk_cell BK1221.out 2).trans rfl, (blk_cell BK1200.out 0).trans rfl, (blk_cell BK1200.out 1).trans rfl⟩ (fun hHeld => ?_)
 clear hK K
 refine norm_ (a' := ?_) ?_ ?_
 rotate_left
 ·show Act.put _ (some 44) _ = _
  simp only [Act.put, List.setIfInBounds_toArray, List.set_cons_zero, List.set_cons_succ, i64_w, i32_w]
  rfl
 refine one_ (i := 4) (N := some 46) #[true, true, true, true, true, false, false, false, false, false] rfl rfl (one_of HT_.out (by kernel_rfl)) (by decide) (fun K hK => ?_)
 refine goes_ Try.func45 (by kernel_rfl) rfl #[.agg #[.int .i64 t1216, .int .i64 t1217, .slice Ao41 t1218.length co41], .agg #[.int .i64 t1225, .int .i64 t1226], .slice Ao45 t1222.length co45] (by rfl) rfl rfl zat3 ?_
 with_reducible refine (impl_RowSumsOf.calls k t1216 t1217 _ _ t1218 t1225 t1226 _ _ t1222 t1227 t1230 _ ?side1 ?side2 ?side3 ?side4 A21.out).mono ?_
 (case side1 => repeat (first | exact (Kd.R_reads' HO1220.out).2.2 | (with_reducible refine Kd.C_alloc ?_ _) | (with_reducible refine Kd.C_drewN ?_ _) | (with_reducible refine Kd.C_drew ?_)))
 (case side2 => exact (Kd.R_reads' HO1220.out).2.1)
 (case side3 => repeat (first | exact (Kd.R_reads' HO1224.out).2.2 | (with_reducible refine Kd.C_alloc ?_ _) | (with_reducible refine Kd.C_drewN ?_ _) | (with_reducible refine Kd.C_drew ?_)))
 (case side4 => exact (Kd.R_reads' HO1224.out).2.1)
 rintro e w46 ⟨v1228, rfl, ho0, hb⟩
 refine ⟨_, rfl, ?_⟩
 have n0_ := Aside0.mk (Kd.R_elder' zat16 (Kd.R_base ho0) hb)
 have n1_ := Aside0.mk (Kd.R_elder' zat18 (Kd.R_base ho0) hb)
 have n2_ := Aside0.mk (Kd.R_elder' zat20 (Kd.R_base ho0) hb)
 have n3_ := Aside0.mk (Kd.R_elder' zat31 (Kd.R_base ho0) hb)
 have n4_ := Aside0.mk (Kd.R_elder' zat36 (Kd.R_base ho0) hb)
 have n5_ := Aside0.mk (Kd.R_lower (Kd.R_new' (Kd.R_new' (Kd.R_new' (Kd.R_new' (Kd.R_new' ho0 (Kd.R_lt zat16)) (Kd.R_lt zat18)) (Kd.R_lt zat20)) (Kd.R_lt zat31)) (Kd.R_lt zat36)) (below_size zat1))
 have n6_ := Aside0.mk (blk_below (g := gb1199) (o := .cells #[.int .i64 a0_0, .int .i64 a0_1, .slice A0_2 l0_2.length c0_2] 24 (0, 0)) zat2 hb)
 have n7_ := Aside0.mk (blk_below (g := gb1200) (o := .cells #[.int .i64 a1_0, .int .i64 a1_1] 26 (0, 0)) zat4 hb)
 have n8_ := Aside0.mk (blk_below (g := gb1221) (o := .cells #[.int .i64 t1216, .int .i64 t1217, .slice Ao41 t1218.length co41] 30 (0, 0)) zat7 hb)
 have n9_ := Aside0.mk (below_step zat1 hb)
 clear HO1206
 clear HO1211
 clear HO1214
 clear HO1220
 clear HO1224
 clear BK1199
 clear BK1200
 clear BK1221
 clear HB
 have HO1206 := n0_
 have HO1211 := n1_
 have HO1214 := n2_
 have HO1220 := n3_
 have HO1224 := n4_
 have HO1229 := n5_
 have BK1199 := n6_
 have BK1200 := n7_
 have BK1221 := n8_
 have HB := n9_
 clear n0_ n1_ n2_ n3_ n4_ n5_ n6_ n7_ n8_ n9_
 (try clear hb)
 (try clear hb2)
 (try clear hk)
 (try clear hi)
 (try clear ho0)
 (try clear hna_)
 (try clear hnb_)
 refine hK.out _ _ ⟨(blk_cell BK1221.out 0).trans rfl, (blk_cell BK1221.out 1).trans rfl, (blk_cell BK1221.out 2).trans rfl, (blk_cell BK1200.out 0).trans rfl, (blk_cell BK1200.out 1).trans rfl⟩ (fun hHeld => ?_)
 clear hK K
 refine norm_ (a' := ?_) ?_ ?_
 rotate_left
 ·show Act.put _ (some 46) _ = _
  simp only [Act.put, List.setIfInBounds_toArray, List.set_cons_zero, List.set_cons_succ, i64_w, i32_w]
  rfl
 refine pure_ (i := 5) (N := some 41) (v := ?_) (a' := ?_) #[true, true, true, true, true, true, false, false, false, false] rfl rfl (any_of HT_.out (by kernel_rfl)) (fun _ _ _ h => h) (Or.inl ⟨by rfl, ?_⟩) ?_ ?_
 rotate_left
 ·intro w'
  go_simp
  with_reducible rfl
 rotate_left
 ·simp only [Act.put, List.setIfInBounds_toArray, List.set_cons_zero, List.set_cons_succ, i64_w, i32_w]
  rfl
 refine pure_ (i := 6) (N := some 47) (v := ?_) (a' := ?_) #[true, true, true, true, true, true, true, false, false, false] rfl rfl (any_of HT_.out (by kernel_rfl)) (fun _ _ _ h => h) (Or.inl ⟨by rfl, ?_⟩) ?_ ?_
 rotate_left
 ·intro w'
  go_simp
  with_reducible rfl
 rotate_left
 ·simp only [Act.put, List.setIfInBounds_toArray, List.set_cons_zero, List.set_cons_succ, i64_w, i32_w]
  rfl
 refine pure_ (i := 7) (N := some 48) (v := ?_) (a' := ?_) #[true, true, true, true, true, true, true, true, false, false] rfl rfl (any_of HT_.out (by kernel_rfl)) (fun _ _ _ h => h) (Or.inl ⟨by rfl, ?_⟩) ?_ ?_
 rotate_left
 ·intro w'
  go_simp
  with_reducible rfl
 rotate_left
 ·simp only [Act.put, List.setIfInBounds_toArray, List.set_cons_zero, List.set_cons_succ, i64_w, i32_w]
  rfl
 refine pure_ (i := 8) (N := some 12) (v := ?_) (a' := ?_) #[true, true, true, true, true, true, true, true, true, false] rfl rfl (any_of HT_.out (by kernel_rfl)) (fun _ _ _ h => h) (Or.inl ⟨by rfl, ?_⟩) ?_ ?_
 rotate_left
 ·intro w'
  go_simp
  with_reducible rfl
 rotate_left
 ·simp only [Act.put, List.setIfInBounds_toArray, List.set_cons_zero, List.set_cons_succ, i64_w, i32_w]
  rfl
 refine pure_ (i := 9) (N := some 13) (v := ?_) (a' := ?_) #[true, true, true, true, true, true, true, true, true, true] rfl rfl (any_of HT_.out (by kernel_rfl)) (fun _ _ _ h => h) (Or.inl ⟨by rfl, ?_⟩) ?_ ?_
 rotate_left
 ·intro w'
  go_simp
  with_reducible rfl
 rotate_left
 ·simp only [Act.put, List.setIfInBounds_toArray, List.set_cons_zero, List.set_cons_succ, i64_w, i32_w]
  rfl
 refine done_ (done_of HT_.out (by kernel_rfl)) ?_
 go_upto_region 11 with (fail)
 go_cut [57] (fun v57 wc => ∃ (kq : Nat) (x57_21 : Bool), v57 = .bool x57_21 ∧ Aside0 (laws_FnExactRowSumsOf.j0 kq l2 t1212 t1215 t1222 t1227 t1230 x57_21 a0_0 a0_1 l0_2 a1_0 a1_1 t1216 t1217 t1218 = some r) ∧ Aside0 (kq ≤ k) ∧ Aside0 (Kd.R (Kd.int .i64) 3 wc w.heap.size (fun k_ => some k_ ≠ ((.slice Ao45 t1222.length co45) : Value).ownBlock ∧ some k_ ≠ (v1228 : Value).ownBlock ∧ some k_ ≠ ((.slice Ao41 t1218.length co41) : Value).ownBlock) v1213 t1212) ∧ Aside0 (Kd.R (Kd.int .i64) 3 wc w.heap.size (fun k_ => some k_ ≠ (v1213 : Value).ownBlock ∧ some k_ ≠ (v1228 : Value).ownBlock ∧ some k_ ≠ ((.slice Ao41 t1218.length co41) : Value).ownBlock) (.slice Ao45 t1222.length co45) t1222) ∧ Aside0 (Kd.R (Kd.int .i64) 3 wc w.heap.size (fun k_ => some k_ ≠ (v1213 : Value).ownBlock ∧ some k_ ≠ ((.slice Ao45 t1222.length co45) : Value).ownBlock ∧ some k_ ≠ ((.slice Ao41 t1218.length co41) : Value).ownBlock) v1228 t1227) ∧ Aside0 (Kd.R (Kd.int .i64) 3 wc w.heap.size (fun k_ => some k_ ≠ (v1213 : Value).ownBlock ∧ some k_ ≠ ((.slice Ao45 t1222.length co45) : Value).ownBlock ∧ some k_ ≠ (v1228 : Value).ownBlock) (.slice Ao41 t1218.length co41) t1218) ∧ Aside0 (wc.heap[gb1199]? = some (.cells #[.int .i64 a0_0, .int .i64 a0_1, (.slice A0_2 l0_2.length c0_2)] 24 (0, 0))) ∧ Aside0 (wc.heap[gb1200]? = some (.cells #[.int .i64 a1_0, .int .i64 a1_1] 26 (0, 0))) ∧ Aside0 (wc.heap[gb1221]? = some (.cells #[.int .i64 t1216, .int .i64 t1217, (.slice Ao41 t1218.length co41)] 30 (0, 0))) ∧ Aside0 (Below w.heap.size w wc))
 case first =>
  have H := HC22.out
  clear HC22
  replace H := Option.bind_eq_some_iff.mp H
  obtain ⟨t1231, A470, H⟩ := H
  replace H : (if t1231 = true then (laws_FnExactRowSumsOf.j0 k l2 t1212 t1215 t1222 t1227 t1230 (t1230 != t1215) a0_0 a0_1 l0_2 a1_0 a1_1 t1216 t1217 t1218) else (laws_FnExactRowSumsOf.j0 k l2 t1212 t1215 t1222 t1227 t1230 true a0_0 a0_1 l0_2 a1_0 a1_1 t1216 t1217 t1218)) = some r := H
  have A47 := Aside0.mk A470
  clear A470
  by_cases c48 : t1231 = true
  ·subst c48
   have H1 : (laws_FnExactRowSumsOf.j0 k l2 t1212 t1215 t1222 t1227 t1230 (t1230 != t1215) a0_0 a0_1 l0_2 a1_0 a1_1 t1216 t1217 t1218) = some r := by rw [if_pos rfl] at H; exact H
   clear H
   have H := H1
   clear H1
   have H' := Aside0.mk H
   clear H
   obtain ⟨Ao49, co49, eo49⟩ := Kd.R_slice HO1229.out
   subst eo49
   obtain ⟨Ao50, co50, eo50⟩ := Kd.R_slice HO1214.out
   subst eo50
   go_wp2_with (first | ((with_reducible refine gate_callee (f := 22) rfl ?_); refine goesL_ (some 51) rfl rfl Try.func22 (by kernel_rfl) rfl #[.slice Ao49 t1227.length co49, .slice Ao50 t1212.length co50] rfl zat3 ?_; (with_reducible refine (laws_eqIntS.calls k _ _ t1227 _ _ t1212 true _ ?side1 ?side2 ?side3 ?side4 A47.out).mono ?_); (case side1 => exact zat46); (case side2 => exact (Kd.R_reads' HO1229.out).2.1); (case side3 => exact zat47); (case side4 => exact (Kd.R_reads' HO1214.out).2.1); rintro e w' ⟨rfl, ⟨nd, rfl⟩⟩; refine ⟨_, rfl, ?_⟩))
   go_meet
   case rel => exact ⟨_, ((t1230 != t1215)), zat35, H', ⟨by first | omega | exact Nat.le_refl _⟩, ⟨zat43⟩, ⟨zat41⟩, ⟨zat40⟩, ⟨zat42⟩, ⟨zat2⟩, ⟨zat4⟩, ⟨zat7⟩, ⟨zat1⟩⟩
  replace c48 := Bool.eq_false_iff.mpr c48
  subst c48
  have H1 : (laws_FnExactRowSumsOf.j0 k l2 t1212 t1215 t1222 t1227 t1230 true a0_0 a0_1 l0_2 a1_0 a1_1 t1216 t1217 t1218) = some r := by rw [if_neg (show ¬ (false = true) by decide)] at H; exact H
  clear H
  have H := H1
  clear H1
  have H' := Aside0.mk H
  clear H
  obtain ⟨Ao51, co51, eo51⟩ := Kd.R_slice HO1229.out
  subst eo51
  obtain ⟨Ao52, co52, eo52⟩ := Kd.R_slice HO1214.out
  subst eo52
  go_wp2_with (first | ((with_reducible refine gate_callee (f := 22) rfl ?_); refine goesL_ (some 51) rfl rfl Try.func22 (by kernel_rfl) rfl #[.slice Ao51 t1227.length co51, .slice Ao52 t1212.length co52] rfl zat3 ?_; (with_reducible refine (laws_eqIntS.calls k _ _ t1227 _ _ t1212 false _ ?side1 ?side2 ?side3 ?side4 A47.out).mono ?_); (case side1 => exact zat46); (case side2 => exact (Kd.R_reads' HO1229.out).2.1); (case side3 => exact zat47); (case side4 => exact (Kd.R_reads' HO1214.out).2.1); rintro e w' ⟨rfl, ⟨nd, rfl⟩⟩; refine ⟨_, rfl, ?_⟩))
  go_meet
  case rel => exact ⟨_, (true), zat35, H', ⟨by first | omega | exact Nat.le_refl _⟩, ⟨zat43⟩, ⟨zat41⟩, ⟨zat40⟩, ⟨zat42⟩, ⟨zat2⟩, ⟨zat4⟩, ⟨zat7⟩, ⟨zat1⟩⟩
 case rest =>
  clear HC22
  try clear c1; try clear c2; try clear p2; try clear c3; try clear c4; try clear c4b0; try clear c4b1; try clear c8; try clear c8b0; try clear c11; try clear c13; try clear c15; try clear c17; try clear c18; try clear c19; try clear c22; try clear c25; try clear c38; try clear c39; try clear c44; try clear c45; try clear c48; try clear hcz12_0; try clear hcz12_1; try clear hcz12_2; try clear hcz26_0; try clear hcz26_1; try clear hcz26_2; try clear hcz35_0; try clear hcz35_1; try clear hcz35_2; try clear hcz40_0; try clear hcz40_1; try clear hcz40_2; try clear hfz12_0; try clear hfz12_1; try clear hfz12_2
  try clear hfz26_0; try clear hfz26_1; try clear hfz26_2; try clear hfz35_0; try clear hfz35_1; try clear hfz35_2; try clear hfz40_0; try clear hfz40_1; try clear hfz40_2
  obtain ⟨kq, x57_21, rfl, HA, HJ21, HO_8, HO_11, HO_12, HO_1222002, BK1199, BK1200, BK1221, HB⟩ := hcut
  cases kq with
  | zero => exact absurd HA.out (by simp [laws_FnExactRowSumsOf.j0])
  | succ kj21 =>
   have H := HA.out
   clear HA
   simp only [laws_FnExactRowSumsOf.j0] at H
   by_cases c53 : x57_21 = true
   ·subst c53
    have H1 : (some false) = some r := by rw [if_pos rfl] at H; exact H
    clear H
    have H := H1
    clear H1
    obtain rfl := Option.some.inj H
    go_wp2
    go_ret
    exact ⟨zat17, zat1⟩
   replace c53 := Bool.eq_false_iff.mpr c53
   subst c53
   have H1 : ((laws_toBoard.f kj21 a0_0 a0_1 l0_2).bind fun bt1232 => ((laws_eqBoard.f kj21 t1216 t1217 t1218 bt1232.1 bt1232.2.1 bt1232.2.2).bind fun t1237 => (if t1237 = true then ((laws_toIntS.f kj21 l2).bind fun t1238 => ((laws_eqIntS.f kj21 t1222 t1238).bind fun t1241 => (if t1241 = true then ((laws_markBoard.f kj21 t1216 t1217 t1218 1).bind fun bt1242 => ((laws_markIntS.f kj21 t1222 bt1242.1).bind fun bt1244 => (if bt1244.1 < 0 then (laws_FnExactRowSumsOf.j1 kj21 l2 t1212 t1215 t1227 true a0_0 a0_1 l0_2 a1_0 a1_1) else ((laws_eqIntS.f kj21 t1227 t1212).bind fun t1246 => (if t1246 = true then (laws_FnExactRowSumsOf.j1 kj21 l2 t1212 t1215 t1227 (t1230 != t1215) a0_0 a0_1 l0_2 a1_0 a1_1) else (laws_FnExactRowSumsOf.j1 kj21 l2 t1212 t1215 t1227 true a0_0 a0_1 l0_2 a1_0 a1_1)))))) else (some false)))) else (some false)))) = some r := by rw [if_neg (show ¬ (false = true) by decide)] at H; exact H
   clear H
   have H := H1
   clear H1
   replace H := Option.bind_eq_some_iff.mp H
   obtain ⟨⟨t1232, t1233, t1234⟩, A540, H⟩ := H
   replace H : ((laws_eqBoard.f kj21 t1216 t1217 t1218 t1232 t1233 t1234).bind fun t1237 => (if t1237 = true then ((laws_toIntS.f kj21 l2).bind fun t1238 => ((laws_eqIntS.f kj21 t1222 t1238).bind fun t1241 => (if t1241 = true then ((laws_markBoard.f kj21 t1216 t1217 t1218 1).bind fun bt1242 => ((laws_markIntS.f kj21 t1222 bt1242.1).bind fun bt1244 => (if bt1244.1 < 0 then (laws_FnExactRowSumsOf.j1 kj21 l2 t1212 t1215 t1227 true a0_0 a0_1 l0_2 a1_0 a1_1) else ((laws_eqIntS.f kj21 t1227 t1212).bind fun t1246 => (if t1246 = true then (laws_FnExactRowSumsOf.j1 kj21 l2 t1212 t1215 t1227 (t1230 != t1215) a0_0 a0_1 l0_2 a1_0 a1_1) else (laws_FnExactRowSumsOf.j1 kj21 l2 t1212 t1215 t1227 true a0_0 a0_1 l0_2 a1_0 a1_1)))))) else (some false)))) else (some false))) = some r := H
   have A54 := Aside0.mk A540
   clear A540
   replace H := Option.bind_eq_some_iff.mp H
   obtain ⟨t1237, A550, H⟩ := H
   replace H : (if t1237 = true then ((laws_toIntS.f kj21 l2).bind fun t1238 => ((laws_eqIntS.f kj21 t1222 t1238).bind fun t1241 => (if t1241 = true then ((laws_markBoard.f kj21 t1216 t1217 t1218 1).bind fun bt1242 => ((laws_markIntS.f kj21 t1222 bt1242.1).bind fun bt1244 => (if bt1244.1 < 0 then (laws_FnExactRowSumsOf.j1 kj21 l2 t1212 t1215 t1227 true a0_0 a0_1 l0_2 a1_0 a1_1) else ((laws_eqIntS.f kj21 t1227 t1212).bind fun t1246 => (if t1246 = true then (laws_FnExactRowSumsOf.j1 kj21 l2 t1212 t1215 t1227 (t1230 != t1215) a0_0 a0_1 l0_2 a1_0 a1_1) else (laws_FnExactRowSumsOf.j1 kj21 l2 t1212 t1215 t1227 true a0_0 a0_1 l0_2 a1_0 a1_1)))))) else (some false)))) else (some false)) = some r := H
   have A55 := Aside0.mk A550
   clear A550
   by_cases c56 : t1237 = true
   rotate_left
   ·replace c56 := Bool.eq_false_iff.mpr c56
    subst c56
    have H1 : (some false) = some r := by rw [if_neg (show ¬ (false = true) by decide)] at H; exact H
    clear H
    have H := H1
    clear H1
    obtain rfl := Option.some.inj H
    try go_wp2
    have n0_ := Aside0.mk (Kd.R_drew HO_8.out)
    have n1_ := Aside0.mk (Kd.R_drew HO_11.out)
    have n2_ := Aside0.mk (Kd.R_drew HO_12.out)
    have n3_ := Aside0.mk (Kd.R_drew HO_1222002.out)
    have n4_ := Aside0.mk (blk_drew BK1199.out)
    have n5_ := Aside0.mk (blk_drew BK1200.out)
    have n6_ := Aside0.mk (blk_drew BK1221.out)
    have n7_ := Aside0.mk (below_drew1 HB.out)
    clear HO_8
    clear HO_11
    clear HO_12
    clear HO_1222002
    clear BK1199
    clear BK1200
    clear BK1221
    clear HB
    have HO_8 := n0_
    have HO_11 := n1_
    have HO_12 := n2_
    have HO_1222002 := n3_
    have BK1199 := n4_
    have BK1200 := n5_
    have BK1221 := n6_
    have HB := n7_
    clear n0_ n1_ n2_ n3_ n4_ n5_ n6_ n7_
    refine start_ (n := 5) (S := fun w' => w'.cell? ⟨gb1221, 0, none⟩ = some (.int .i64 t1216) ∧ w'.cell? ⟨gb1221, 1, none⟩ = some (.int .i64 t1217) ∧ w'.cell? ⟨gb1221, 2, none⟩ = some (.slice Ao41 t1218.length co41) ∧ w'.cell? ⟨gb1199, 0, none⟩ = some (.int .i64 a0_0) ∧ w'.cell? ⟨gb1199, 1, none⟩ = some (.int .i64 a0_1) ∧ w'.cell? ⟨gb1199, 2, none⟩ = some (.slice A0_2 l0_2.length c0_2)) (ds := []) #[false, false, false, false, false] (by kernel_rfl) rfl rfl ⟨(blk_cell BK1221.out 0).trans rfl, (blk_cell BK1221.out 1).trans rfl, (blk_cell BK1221.out 2).trans rfl, (blk_cell BK1199.out 0).trans rfl, (blk_cell BK1199.out 1).trans rfl, (blk_cell BK1199.out 2).trans rfl⟩ (fun hHeld => ?_)
    generalize wc.drew = w120 at HO_8 HO_11 HO_12 HO_1222002 BK1199 BK1200 BK1221 HB hHeld ⊢
    refine take_ (i := 0) (N := some 58) (v := ?_) (a' := ?_) #[true, false, false, false, false] rfl rfl (by kernel_rfl) (fun _ _ _ h => h) (Or.inl ⟨by rfl, ?_⟩) hHeld ?_ ?_
    rotate_left
    ·rintro w' ⟨s0, s1, s2, s3, s4, s5⟩
     go_simp
     with_reducible rfl
    rotate_left
    ·simp only [Act.put, List.setIfInBounds_toArray, List.set_cons_zero, List.set_cons_succ, i64_w, i32_w]
     rfl
    refine take_ (i := 1) (N := some 59) (v := ?_) (a' := ?_) #[true, true, false, false, false] rfl rfl (by kernel_rfl) (fun _ _ _ h => h) (Or.inl ⟨by rfl, ?_⟩) hHeld ?_ ?_
    rotate_left
    ·rintro w' ⟨s0, s1, s2, s3, s4, s5⟩
     go_simp
     with_reducible rfl
    rotate_left
    ·simp only [Act.put, List.setIfInBounds_toArray, List.set_cons_zero, List.set_cons_succ, i64_w, i32_w]
     rfl
    refine one_ (i := 2) (N := some 60) #[true, true, true, false, false] rfl rfl (by kernel_rfl) (by decide) (fun K hK => ?_)
    refine goes_ Try.func17 (by kernel_rfl) rfl #[.agg #[.int .i64 a0_0, .int .i64 a0_1, .slice A0_2 l0_2.length c0_2]] (by rfl) rfl rfl zat3 ?_
    with_reducible refine (laws_toBoard.calls kj21 a0_0 a0_1 _ _ l0_2 t1232 t1233 t1234 _ ?side1 ?side2 A54.out).mono ?_
    (case side1 => exact zat13)
    (case side2 => exact HC0_2.out)
    rintro e w121 ⟨v1235, rfl, ho0, hb⟩
    refine ⟨_, rfl, ?_⟩
    have n0_ := Aside0.mk (Kd.R_elder' zat10 (Kd.R_base ho0) hb)
    have n1_ := Aside0.mk (Kd.R_elder' zat12 (Kd.R_base ho0) hb)
    have n2_ := Aside0.mk (Kd.R_elder' zat9 (Kd.R_base ho0) hb)
    have n3_ := Aside0.mk (Kd.R_elder' zat8 (Kd.R_base ho0) hb)
    have n4_ := Aside0.mk (Kd.R_lower (Kd.R_new' (Kd.R_new' (Kd.R_new' (Kd.R_new' ho0 (Kd.R_lt zat10)) (Kd.R_lt zat12)) (Kd.R_lt zat9)) (Kd.R_lt zat8)) (below_size zat1))
    have n5_ := Aside0.mk (blk_below (g := gb1199) (o := .cells #[.int .i64 a0_0, .int .i64 a0_1, .slice A0_2 l0_2.length c0_2] 24 (0, 0)) zat2 hb)
    have n6_ := Aside0.mk (blk_below (g := gb1200) (o := .cells #[.int .i64 a1_0, .int .i64 a1_1] 26 (0, 0)) zat4 hb)
    have n7_ := Aside0.mk (blk_below (g := gb1221) (o := .cells #[.int .i64 t1216, .int .i64 t1217, .slice Ao41 t1218.length co41] 30 (0, 0)) zat7 hb)
    have n8_ := Aside0.mk (below_step zat1 hb)
    clear HO_8
    clear HO_11
    clear HO_12
    clear HO_1222002
    clear BK1199
    clear BK1200
    clear BK1221
    clear HB
    have HO_8 := n0_
    have HO_11 := n1_
    have HO_12 := n2_
    have HO_1222002 := n3_
    have HO1236 := n4_
    have BK1199 := n5_
    have BK1200 := n6_
    have BK1221 := n7_
    have HB := n8_
    clear n0_ n1_ n2_ n3_ n4_ n5_ n6_ n7_ n8_
    (try clear hb)
    (try clear hb2)
    (try clear hk)
    (try clear hi)
    (try clear ho0)
    (try clear hna_)
    (try clear hnb_)
    obtain ⟨Ao122, co122, eo122⟩ := Kd.R_slice HO1236.out
    (first | subst eo122 | (injection eo122 with f1_ f2_ f3_; have f4_ := f1_.symm; have f5_ := f3_.symm; clear f1_ f2_ f3_; subst f4_; subst f5_))
    refine hK.out _ _ ⟨(blk_cell BK1221.out 0).trans rfl, (blk_cell BK1221.out 1).trans rfl, (blk_cell BK1221.out 2).trans rfl, (blk_cell BK1199.out 0).trans rfl, (blk_cell BK1199.out 1).trans rfl, (blk_cell BK1199.out 2).trans rfl⟩ (fun hHeld => ?_)
    clear hK K
    refine norm_ (a' := ?_) ?_ ?_
    rotate_left
    ·show Act.put _ (some 60) _ = _
     simp only [Act.put, List.setIfInBounds_toArray, List.set_cons_zero, List.set_cons_succ, i64_w, i32_w]
     rfl
    refine one_ (i := 3) (N := some 61) #[true, true, true, true, false] rfl rfl (by kernel_rfl) (by decide) (fun K hK => ?_)
    refine goes_ Try.func21 (by kernel_rfl) rfl #[.agg #[.int .i64 t1216, .int .i64 t1217, .slice Ao41 t1218.length co41], .agg #[.int .i64 t1232, .int .i64 t1233, .slice Ao122 t1234.length co122]] (by rfl) rfl rfl zat3 ?_
    with_reducible refine (laws_eqBoard.calls kj21 t1216 t1217 _ _ t1218 t1232 t1233 _ _ t1234 false _ ?side1 ?side2 ?side3 ?side4 A55.out).mono ?_
    (case side1 => exact zat29)
    (case side2 => exact (Kd.R_reads' HO_1222002.out).2.1)
    (case side3 => exact zat30)
    (case side4 => exact (Kd.R_reads' HO1236.out).2.1)
    rintro e w123 ⟨rfl, hb⟩
    refine ⟨_, rfl, ?_⟩
    have n0_ := Aside0.mk (Kd.R_below zat10 hb)
    have n1_ := Aside0.mk (Kd.R_below zat12 hb)
    have n2_ := Aside0.mk (Kd.R_below zat9 hb)
    have n3_ := Aside0.mk (Kd.R_below zat8 hb)
    have n4_ := Aside0.mk (Kd.R_below zat19 hb)
    have n5_ := Aside0.mk (blk_below (g := gb1199) (o := .cells #[.int .i64 a0_0, .int .i64 a0_1, .slice A0_2 l0_2.length c0_2] 24 (0, 0)) zat2 hb)
    have n6_ := Aside0.mk (blk_below (g := gb1200) (o := .cells #[.int .i64 a1_0, .int .i64 a1_1] 26 (0, 0)) zat4 hb)
    have n7_ := Aside0.mk (blk_below (g := gb1221) (o := .cells #[.int .i64 t1216, .int .i64 t1217, .slice Ao41 t1218.length co41] 30 (0, 0)) zat7 hb)
    have n8_ := Aside0.mk (below_step zat1 hb)
    clear HO_8
    clear HO_11
    clear HO_12
    clear HO_1222002
    clear HO1236
    clear BK1199
    clear BK1200
    clear BK1221
    clear HB
    have HO_8 := n0_
    have HO_11 := n1_
    have HO_12 := n2_
    have HO_1222002 := n3_
    have HO1236 := n4_
    have BK1199 := n5_
    have BK1200 := n6_
    have BK1221 := n7_
    have HB := n8_
    clear n0_ n1_ n2_ n3_ n4_ n5_ n6_ n7_ n8_
    (try clear hb)
    (try clear hb2)
    (try clear hk)
    (try clear hi)
    (try clear hna_)
    (try clear hnb_)
    refine hK.out _ _ ⟨(blk_cell BK1221.out 0).trans rfl, (blk_cell BK1221.out 1).trans rfl, (blk_cell BK1221.out 2).trans rfl, (blk_cell BK1199.out 0).trans rfl, (blk_cell BK1199.out 1).trans rfl, (blk_cell BK1199.out 2).trans rfl⟩ (fun hHeld => ?_)
    clear hK K
    refine norm_ (a' := ?_) ?_ ?_
    rotate_left
    ·show Act.put _ (some 61) _ = _
     simp only [Act.put, List.setIfInBounds_toArray, List.set_cons_zero, List.set_cons_succ, i64_w, i32_w]
     rfl
    refine pure_ (i := 4) (N := some 62) (v := ?_) (a' := ?_) #[true, true, true, true, true] rfl rfl (by kernel_rfl) (fun _ _ _ h => h) (Or.inl ⟨by rfl, ?_⟩) ?_ ?_
    rotate_left
    ·intro w'
     go_simp
     with_reducible rfl
    rotate_left
    ·simp only [Act.put, List.setIfInBounds_toArray, List.set_cons_zero, List.set_cons_succ, i64_w, i32_w]
     rfl
    refine done_ (by kernel_rfl) ?_
    try go_wp2
    go_ret
    exact ⟨zat17, zat1⟩
   subst c56
   have H1 : ((laws_toIntS.f kj21 l2).bind fun t1238 => ((laws_eqIntS.f kj21 t1222 t1238).bind fun t1241 => (if t1241 = true then ((laws_markBoard.f kj21 t1216 t1217 t1218 1).bind fun bt1242 => ((laws_markIntS.f kj21 t1222 bt1242.1).bind fun bt1244 => (if bt1244.1 < 0 then (laws_FnExactRowSumsOf.j1 kj21 l2 t1212 t1215 t1227 true a0_0 a0_1 l0_2 a1_0 a1_1) else ((laws_eqIntS.f kj21 t1227 t1212).bind fun t1246 => (if t1246 = true then (laws_FnExactRowSumsOf.j1 kj21 l2 t1212 t1215 t1227 (t1230 != t1215) a0_0 a0_1 l0_2 a1_0 a1_1) else (laws_FnExactRowSumsOf.j1 kj21 l2 t1212 t1215 t1227 true a0_0 a0_1 l0_2 a1_0 a1_1)))))) else (some false)))) = some r := by rw [if_pos rfl] at H; exact H
   clear H
   have H := H1
   clear H1
   replace H := Option.bind_eq_some_iff.mp H
   obtain ⟨t1238, A570, H⟩ := H
   replace H : ((laws_eqIntS.f kj21 t1222 t1238).bind fun t1241 => (if t1241 = true then ((laws_markBoard.f kj21 t1216 t1217 t1218 1).bind fun bt1242 => ((laws_markIntS.f kj21 t1222 bt1242.1).bind fun bt1244 => (if bt1244.1 < 0 then (laws_FnExactRowSumsOf.j1 kj21 l2 t1212 t1215 t1227 true a0_0 a0_1 l0_2 a1_0 a1_1) else ((laws_eqIntS.f kj21 t1227 t1212).bind fun t1246 => (if t1246 = true then (laws_FnExactRowSumsOf.j1 kj21 l2 t1212 t1215 t1227 (t1230 != t1215) a0_0 a0_1 l0_2 a1_0 a1_1) else (laws_FnExactRowSumsOf.j1 kj21 l2 t1212 t1215 t1227 true a0_0 a0_1 l0_2 a1_0 a1_1)))))) else (some false))) = some r := H
   have A57 := Aside0.mk A570
   clear A570
   replace H := Option.bind_eq_some_iff.mp H
   obtain ⟨t1241, A580, H⟩ := H
   replace H : (if t1241 = true then ((laws_markBoard.f kj21 t1216 t1217 t1218 1).bind fun bt1242 => ((laws_markIntS.f kj21 t1222 bt1242.1).bind fun bt1244 => (if bt1244.1 < 0 then (laws_FnExactRowSumsOf.j1 kj21 l2 t1212 t1215 t1227 true a0_0 a0_1 l0_2 a1_0 a1_1) else ((laws_eqIntS.f kj21 t1227 t1212).bind fun t1246 => (if t1246 = true then (laws_FnExactRowSumsOf.j1 kj21 l2 t1212 t1215 t1227 (t1230 != t1215) a0_0 a0_1 l0_2 a1_0 a1_1) else (laws_FnExactRowSumsOf.j1 kj21 l2 t1212 t1215 t1227 true a0_0 a0_1 l0_2 a1_0 a1_1)))))) else (some false)) = some r := H
   have A58 := Aside0.mk A580
   clear A580
   by_cases c59 : t1241 = true
   rotate_left
   ·replace c59 := Bool.eq_false_iff.mpr c59
    subst c59
    have H1 : (some false) = some r := by rw [if_neg (show ¬ (false = true) by decide)] at H; exact H
    clear H
    have H := H1
    clear H1
    obtain rfl := Option.some.inj H
    try go_wp2
    have n0_ := Aside0.mk (Kd.R_drew HO_8.out)
    have n1_ := Aside0.mk (Kd.R_drew HO_11.out)
    have n2_ := Aside0.mk (Kd.R_drew HO_12.out)
    have n3_ := Aside0.mk (Kd.R_drew HO_1222002.out)
    have n4_ := Aside0.mk (blk_drew BK1199.out)
    have n5_ := Aside0.mk (blk_drew BK1200.out)
    have n6_ := Aside0.mk (blk_drew BK1221.out)
    have n7_ := Aside0.mk (below_drew1 HB.out)
    clear HO_8
    clear HO_11
    clear HO_12
    clear HO_1222002
    clear BK1199
    clear BK1200
    clear BK1221
    clear HB
    have HO_8 := n0_
    have HO_11 := n1_
    have HO_12 := n2_
    have HO_1222002 := n3_
    have BK1199 := n4_
    have BK1200 := n5_
    have BK1221 := n6_
    have HB := n7_
    clear n0_ n1_ n2_ n3_ n4_ n5_ n6_ n7_
    refine start_ (n := 5) (S := fun w' => w'.cell? ⟨gb1221, 0, none⟩ = some (.int .i64 t1216) ∧ w'.cell? ⟨gb1221, 1, none⟩ = some (.int .i64 t1217) ∧ w'.cell? ⟨gb1221, 2, none⟩ = some (.slice Ao41 t1218.length co41) ∧ w'.cell? ⟨gb1199, 0, none⟩ = some (.int .i64 a0_0) ∧ w'.cell? ⟨gb1199, 1, none⟩ = some (.int .i64 a0_1) ∧ w'.cell? ⟨gb1199, 2, none⟩ = some (.slice A0_2 l0_2.length c0_2)) (ds := []) #[false, false, false, false, false] (by kernel_rfl) rfl rfl ⟨(blk_cell BK1221.out 0).trans rfl, (blk_cell BK1221.out 1).trans rfl, (blk_cell BK1221.out 2).trans rfl, (blk_cell BK1199.out 0).trans rfl, (blk_cell BK1199.out 1).trans rfl, (blk_cell BK1199.out 2).trans rfl⟩ (fun hHeld => ?_)
    generalize wc.drew = w114 at HO_8 HO_11 HO_12 HO_1222002 BK1199 BK1200 BK1221 HB hHeld ⊢
    refine take_ (i := 0) (N := some 58) (v := ?_) (a' := ?_) #[true, false, false, false, false] rfl rfl (by kernel_rfl) (fun _ _ _ h => h) (Or.inl ⟨by rfl, ?_⟩) hHeld ?_ ?_
    rotate_left
    ·rintro w' ⟨s0, s1, s2, s3, s4, s5⟩
     go_simp
     with_reducible rfl
    rotate_left
    ·simp only [Act.put, List.setIfInBounds_toArray, List.set_cons_zero, List.set_cons_succ, i64_w, i32_w]
     rfl
    refine take_ (i := 1) (N := some 59) (v := ?_) (a' := ?_) #[true, true, false, false, false] rfl rfl (by kernel_rfl) (fun _ _ _ h => h) (Or.inl ⟨by rfl, ?_⟩) hHeld ?_ ?_
    rotate_left
    ·rintro w' ⟨s0, s1, s2, s3, s4, s5⟩
     go_simp
     with_reducible rfl
    rotate_left
    ·simp only [Act.put, List.setIfInBounds_toArray, List.set_cons_zero, List.set_cons_succ, i64_w, i32_w]
     rfl
    refine one_ (i := 2) (N := some 60) #[true, true, true, false, false] rfl rfl (by kernel_rfl) (by decide) (fun K hK => ?_)
    refine goes_ Try.func17 (by kernel_rfl) rfl #[.agg #[.int .i64 a0_0, .int .i64 a0_1, .slice A0_2 l0_2.length c0_2]] (by rfl) rfl rfl zat3 ?_
    with_reducible refine (laws_toBoard.calls kj21 a0_0 a0_1 _ _ l0_2 t1232 t1233 t1234 _ ?side1 ?side2 A54.out).mono ?_
    (case side1 => exact zat13)
    (case side2 => exact HC0_2.out)
    rintro e w115 ⟨v1235, rfl, ho0, hb⟩
    refine ⟨_, rfl, ?_⟩
    have n0_ := Aside0.mk (Kd.R_elder' zat10 (Kd.R_base ho0) hb)
    have n1_ := Aside0.mk (Kd.R_elder' zat12 (Kd.R_base ho0) hb)
    have n2_ := Aside0.mk (Kd.R_elder' zat9 (Kd.R_base ho0) hb)
    have n3_ := Aside0.mk (Kd.R_elder' zat8 (Kd.R_base ho0) hb)
    have n4_ := Aside0.mk (Kd.R_lower (Kd.R_new' (Kd.R_new' (Kd.R_new' (Kd.R_new' ho0 (Kd.R_lt zat10)) (Kd.R_lt zat12)) (Kd.R_lt zat9)) (Kd.R_lt zat8)) (below_size zat1))
    have n5_ := Aside0.mk (blk_below (g := gb1199) (o := .cells #[.int .i64 a0_0, .int .i64 a0_1, .slice A0_2 l0_2.length c0_2] 24 (0, 0)) zat2 hb)
    have n6_ := Aside0.mk (blk_below (g := gb1200) (o := .cells #[.int .i64 a1_0, .int .i64 a1_1] 26 (0, 0)) zat4 hb)
    have n7_ := Aside0.mk (blk_below (g := gb1221) (o := .cells #[.int .i64 t1216, .int .i64 t1217, .slice Ao41 t1218.length co41] 30 (0, 0)) zat7 hb)
    have n8_ := Aside0.mk (below_step zat1 hb)
    clear HO_8
    clear HO_11
    clear HO_12
    clear HO_1222002
    clear BK1199
    clear BK1200
    clear BK1221
    clear HB
    have HO_8 := n0_
    have HO_11 := n1_
    have HO_12 := n2_
    have HO_1222002 := n3_
    have HO1236 := n4_
    have BK1199 := n5_
    have BK1200 := n6_
    have BK1221 := n7_
    have HB := n8_
    clear n0_ n1_ n2_ n3_ n4_ n5_ n6_ n7_ n8_
    (try clear hb)
    (try clear hb2)
    (try clear hk)
    (try clear hi)
    (try clear ho0)
    (try clear hna_)
    (try clear hnb_)
    obtain ⟨Ao116, co116, eo116⟩ := Kd.R_slice HO1236.out
    (first | subst eo116 | (injection eo116 with f1_ f2_ f3_; have f4_ := f1_.symm; have f5_ := f3_.symm; clear f1_ f2_ f3_; subst f4_; subst f5_))
    refine hK.out _ _ ⟨(blk_cell BK1221.out 0).trans rfl, (blk_cell BK1221.out 1).trans rfl, (blk_cell BK1221.out 2).trans rfl, (blk_cell BK1199.out 0).trans rfl, (blk_cell BK1199.out 1).trans rfl, (blk_cell BK1199.out 2).trans rfl⟩ (fun hHeld => ?_)
    clear hK K
    refine norm_ (a' := ?_) ?_ ?_
    rotate_left
    ·show Act.put _ (some 60) _ = _
     simp only [Act.put, List.setIfInBounds_toArray, List.set_cons_zero, List.set_cons_succ, i64_w, i32_w]
     rfl
    refine one_ (i := 3) (N := some 61) #[true, true, true, true, false] rfl rfl (by kernel_rfl) (by decide) (fun K hK => ?_)
    refine goes_ Try.func21 (by kernel_rfl) rfl #[.agg #[.int .i64 t1216, .int .i64 t1217, .slice Ao41 t1218.length co41], .agg #[.int .i64 t1232, .int .i64 t1233, .slice Ao116 t1234.length co116]] (by rfl) rfl rfl zat3 ?_
    with_reducible refine (laws_eqBoard.calls kj21 t1216 t1217 _ _ t1218 t1232 t1233 _ _ t1234 true _ ?side1 ?side2 ?side3 ?side4 A55.out).mono ?_
    (case side1 => exact zat29)
    (case side2 => exact (Kd.R_reads' HO_1222002.out).2.1)
    (case side3 => exact zat30)
    (case side4 => exact (Kd.R_reads' HO1236.out).2.1)
    rintro e w117 ⟨rfl, hb⟩
    refine ⟨_, rfl, ?_⟩
    have n0_ := Aside0.mk (Kd.R_below zat10 hb)
    have n1_ := Aside0.mk (Kd.R_below zat12 hb)
    have n2_ := Aside0.mk (Kd.R_below zat9 hb)
    have n3_ := Aside0.mk (Kd.R_below zat8 hb)
    have n4_ := Aside0.mk (Kd.R_below zat19 hb)
    have n5_ := Aside0.mk (blk_below (g := gb1199) (o := .cells #[.int .i64 a0_0, .int .i64 a0_1, .slice A0_2 l0_2.length c0_2] 24 (0, 0)) zat2 hb)
    have n6_ := Aside0.mk (blk_below (g := gb1200) (o := .cells #[.int .i64 a1_0, .int .i64 a1_1] 26 (0, 0)) zat4 hb)
    have n7_ := Aside0.mk (blk_below (g := gb1221) (o := .cells #[.int .i64 t1216, .int .i64 t1217, .slice Ao41 t1218.length co41] 30 (0, 0)) zat7 hb)
    have n8_ := Aside0.mk (below_step zat1 hb)
    clear HO_8
    clear HO_11
    clear HO_12
    clear HO_1222002
    clear HO1236
    clear BK1199
    clear BK1200
    clear BK1221
    clear HB
    have HO_8 := n0_
    have HO_11 := n1_
    have HO_12 := n2_
    have HO_1222002 := n3_
    have HO1236 := n4_
    have BK1199 := n5_
    have BK1200 := n6_
    have BK1221 := n7_
    have HB := n8_
    clear n0_ n1_ n2_ n3_ n4_ n5_ n6_ n7_ n8_
    (try clear hb)
    (try clear hb2)
    (try clear hk)
    (try clear hi)
    (try clear hna_)
    (try clear hnb_)
    refine hK.out _ _ ⟨(blk_cell BK1221.out 0).trans rfl, (blk_cell BK1221.out 1).trans rfl, (blk_cell BK1221.out 2).trans rfl, (blk_cell BK1199.out 0).trans rfl, (blk_cell BK1199.out 1).trans rfl, (blk_cell BK1199.out 2).trans rfl⟩ (fun hHeld => ?_)
    clear hK K
    refine norm_ (a' := ?_) ?_ ?_
    rotate_left
    ·show Act.put _ (some 61) _ = _
     simp only [Act.put, List.setIfInBounds_toArray, List.set_cons_zero, List.set_cons_succ, i64_w, i32_w]
     rfl
    refine pure_ (i := 4) (N := some 62) (v := ?_) (a' := ?_) #[true, true, true, true, true] rfl rfl (by kernel_rfl) (fun _ _ _ h => h) (Or.inl ⟨by rfl, ?_⟩) ?_ ?_
    rotate_left
    ·intro w'
     go_simp
     with_reducible rfl
    rotate_left
    ·simp only [Act.put, List.setIfInBounds_toArray, List.set_cons_zero, List.set_cons_succ, i64_w, i32_w]
     rfl
    refine done_ (by kernel_rfl) ?_
    try go_wp2_with (first | ((with_reducible refine gate_callee (f := 19) rfl ?_); refine goesL_ (some 65) rfl rfl Try.func19 (by kernel_rfl) rfl #[.slice A2 l2.length c2] rfl zat3 ?_; (with_reducible refine (laws_toIntS.calls kj21 _ _ l2 t1238 _ ?side1 ?side2 A57.out).mono ?_); (case side1 => exact zat21); (case side2 => exact HC2.out); rintro e w118 ⟨v1239, rfl, ho0, hb⟩; refine ⟨_, rfl, ?_⟩; have n0_ := Aside0.mk (Kd.R_elder' zat10 (Kd.R_base ho0) hb); have n1_ := Aside0.mk (Kd.R_elder' zat12 (Kd.R_base ho0) hb); have n2_ := Aside0.mk (Kd.R_elder' zat9 (Kd.R_base ho0) hb); have n3_ := Aside0.mk (Kd.R_elder' zat8 (Kd.R_base ho0) hb); have n4_ := Aside0.mk (Kd.R_elder' zat19 (Kd.R_base ho0) hb); have n5_ := Aside0.mk (Kd.R_lower (Kd.R_new' (Kd.R_new' (Kd.R_new' (Kd.R_new' (Kd.R_new' ho0 (Kd.R_lt zat10)) (Kd.R_lt zat12)) (Kd.R_lt zat9)) (Kd.R_lt zat8)) (Kd.R_lt zat19)) (below_size zat1)); have n6_ := Aside0.mk (blk_below (g := gb1199) (o := .cells #[.int .i64 a0_0, .int .i64 a0_1, .slice A0_2 l0_2.length c0_2] 24 (0, 0)) zat2 hb); have n7_ := Aside0.mk (blk_below (g := gb1200) (o := .cells #[.int .i64 a1_0, .int .i64 a1_1] 26 (0, 0)) zat4 hb); have n8_ := Aside0.mk (blk_below (g := gb1221) (o := .cells #[.int .i64 t1216, .int .i64 t1217, .slice Ao41 t1218.length co41] 30 (0, 0)) zat7 hb); have n9_ := Aside0.mk (below_step zat1 hb); clear HO_8; clear HO_11; clear HO_12; clear HO_1222002; clear HO1236; clear BK1199; clear BK1200; clear BK1221; clear HB; have HO_8 := n0_; have HO_11 := n1_; have HO_12 := n2_; have HO_1222002 := n3_; have HO1236 := n4_; have HO1240 := n5_; have BK1199 := n6_; have BK1200 := n7_; have BK1221 := n8_; have HB := n9_; clear n0_ n1_ n2_ n3_ n4_ n5_ n6_ n7_ n8_ n9_; (try clear hb); (try clear hb2); (try clear hk); (try clear hi); (try clear ho0); (try clear hna_); (try clear hnb_); obtain ⟨Ao119, co119, eo119⟩ := Kd.R_slice HO1240.out; subst eo119) | ((with_reducible refine gate_callee (f := 22) rfl ?_); refine goesL_ (some 66) rfl rfl Try.func22 (by kernel_rfl) rfl #[.slice Ao45 t1222.length co45, .slice Ao119 t1238.length co119] rfl zat3 ?_; (with_reducible refine (laws_eqIntS.calls kj21 _ _ t1222 _ _ t1238 false _ ?side1 ?side2 ?side3 ?side4 A58.out).mono ?_); (case side1 => exact zat48); (case side2 => exact (Kd.R_reads' HO_11.out).2.1); (case side3 => exact zat45); (case side4 => exact (Kd.R_reads' HO1240.out).2.1); rintro e w' ⟨rfl, ⟨nd, rfl⟩⟩; refine ⟨_, rfl, ?_⟩))
    go_ret
    exact ⟨zat17, zat1⟩
   subst c59
   have H1 : ((laws_markBoard.f kj21 t1216 t1217 t1218 1).bind fun bt1242 => ((laws_markIntS.f kj21 t1222 bt1242.1).bind fun bt1244 => (if bt1244.1 < 0 then (laws_FnExactRowSumsOf.j1 kj21 l2 t1212 t1215 t1227 true a0_0 a0_1 l0_2 a1_0 a1_1) else ((laws_eqIntS.f kj21 t1227 t1212).bind fun t1246 => (if t1246 = true then (laws_FnExactRowSumsOf.j1 kj21 l2 t1212 t1215 t1227 (t1230 != t1215) a0_0 a0_1 l0_2 a1_0 a1_1) else (laws_FnExactRowSumsOf.j1 kj21 l2 t1212 t1215 t1227 true a0_0 a0_1 l0_2 a1_0 a1_1)))))) = some r := by rw [if_pos rfl] at H; exact H
   clear H
   have H := H1
   clear H1
   replace H := Option.bind_eq_some_iff.mp H
   obtain ⟨⟨t1242, t1243⟩, A600, H⟩ := H
   replace H : ((laws_markIntS.f kj21 t1222 t1242).bind fun bt1244 => (if bt1244.1 < 0 then (laws_FnExactRowSumsOf.j1 kj21 l2 t1212 t1215 t1227 true a0_0 a0_1 l0_2 a1_0 a1_1) else ((laws_eqIntS.f kj21 t1227 t1212).bind fun t1246 => (if t1246 = true then (laws_FnExactRowSumsOf.j1 kj21 l2 t1212 t1215 t1227 (t1230 != t1215) a0_0 a0_1 l0_2 a1_0 a1_1) else (laws_FnExactRowSumsOf.j1 kj21 l2 t1212 t1215 t1227 true a0_0 a0_1 l0_2 a1_0 a1_1))))) = some r := H
   have A60 := Aside0.mk A600
   clear A600
   replace H := Option.bind_eq_some_iff.mp H
   obtain ⟨⟨t1244, t1245⟩, A610, H⟩ := H
   replace H : (if t1244 < 0 then (laws_FnExactRowSumsOf.j1 kj21 l2 t1212 t1215 t1227 true a0_0 a0_1 l0_2 a1_0 a1_1) else ((laws_eqIntS.f kj21 t1227 t1212).bind fun t1246 => (if t1246 = true then (laws_FnExactRowSumsOf.j1 kj21 l2 t1212 t1215 t1227 (t1230 != t1215) a0_0 a0_1 l0_2 a1_0 a1_1) else (laws_FnExactRowSumsOf.j1 kj21 l2 t1212 t1215 t1227 true a0_0 a0_1 l0_2 a1_0 a1_1)))) = some r := H
   have A61 := Aside0.mk A610
   clear A610
   have HC62 := Aside0.mk H
   clear H
   try go_wp2
   have n0_ := Aside0.mk (Kd.R_drew HO_8.out)
   have n1_ := Aside0.mk (Kd.R_drew HO_11.out)
   have n2_ := Aside0.mk (Kd.R_drew HO_12.out)
   have n3_ := Aside0.mk (Kd.R_drew HO_1222002.out)
   have n4_ := Aside0.mk (blk_drew BK1199.out)
   have n5_ := Aside0.mk (blk_drew BK1200.out)
   have n6_ := Aside0.mk (blk_drew BK1221.out)
   have n7_ := Aside0.mk (below_drew1 HB.out)
   clear HO_8
   clear HO_11
   clear HO_12
   clear HO_1222002
   clear BK1199
   clear BK1200
   clear BK1221
   clear HB
   have HO_8 := n0_
   have HO_11 := n1_
   have HO_12 := n2_
   have HO_1222002 := n3_
   have BK1199 := n4_
   have BK1200 := n5_
   have BK1221 := n6_
   have HB := n7_
   clear n0_ n1_ n2_ n3_ n4_ n5_ n6_ n7_
   refine start_ (n := 5) (S := fun w' => w'.cell? ⟨gb1221, 0, none⟩ = some (.int .i64 t1216) ∧ w'.cell? ⟨gb1221, 1, none⟩ = some (.int .i64 t1217) ∧ w'.cell? ⟨gb1221, 2, none⟩ = some (.slice Ao41 t1218.length co41) ∧ w'.cell? ⟨gb1199, 0, none⟩ = some (.int .i64 a0_0) ∧ w'.cell? ⟨gb1199, 1, none⟩ = some (.int .i64 a0_1) ∧ w'.cell? ⟨gb1199, 2, none⟩ = some (.slice A0_2 l0_2.length c0_2)) (ds := []) #[false, false, false, false, false] (by kernel_rfl) rfl rfl ⟨(blk_cell BK1221.out 0).trans rfl, (blk_cell BK1221.out 1).trans rfl, (blk_cell BK1221.out 2).trans rfl, (blk_cell BK1199.out 0).trans rfl, (blk_cell BK1199.out 1).trans rfl, (blk_cell BK1199.out 2).trans rfl⟩ (fun hHeld => ?_)
   generalize wc.drew = w63 at HO_8 HO_11 HO_12 HO_1222002 BK1199 BK1200 BK1221 HB hHeld ⊢
   refine take_ (i := 0) (N := some 58) (v := ?_) (a' := ?_) #[true, false, false, false, false] rfl rfl (by kernel_rfl) (fun _ _ _ h => h) (Or.inl ⟨by rfl, ?_⟩) hHeld ?_ ?_
   rotate_left
   ·rintro w' ⟨s0, s1, s2, s3, s4, s5⟩
    go_simp
    with_reducible rfl
   rotate_left
   ·simp only [Act.put, List.setIfInBounds_toArray, List.set_cons_zero, List.set_cons_succ, i64_w, i32_w]
    rfl
   refine take_ (i := 1) (N := some 59) (v := ?_) (a' := ?_) #[true, true, false, false, false] rfl rfl (by kernel_rfl) (fun _ _ _ h => h) (Or.inl ⟨by rfl, ?_⟩) hHeld ?_ ?_
   rotate_left
   ·rintro w' ⟨s0, s1, s2, s3, s4, s5⟩
    go_simp
    with_reducible rfl
   rotate_left
   ·simp only [Act.put, List.setIfInBounds_toArray, List.set_cons_zero, List.set_cons_succ, i64_w, i32_w]
    rfl
   refine one_ (i := 2) (N := some 60) #[true, true, true, false, false] rfl rfl (by kernel_rfl) (by decide) (fun K hK => ?_)
   refine goes_ Try.func17 (by kernel_rfl) rfl #[.agg #[.int .i64 a0_0, .int .i64 a0_1, .slice A0_2 l0_2.length c0_2]] (by rfl) rfl rfl zat3 ?_
   with_reducible refine (laws_toBoard.calls kj21 a0_0 a0_1 _ _ l0_2 t1232 t1233 t1234 _ ?side1 ?side2 A54.out).mono ?_
   (case side1 => exact zat13)
   (case side2 => exact HC0_2.out)
   rintro e w64 ⟨v1235, rfl, ho0, hb⟩
   refine ⟨_, rfl, ?_⟩
   have n0_ := Aside0.mk (Kd.R_elder' zat10 (Kd.R_base ho0) hb)
   have n1_ := Aside0.mk (Kd.R_elder' zat12 (Kd.R_base ho0) hb)
   have n2_ := Aside0.mk (Kd.R_elder' zat9 (Kd.R_base ho0) hb)
   have n3_ := Aside0.mk (Kd.R_elder' zat8 (Kd.R_base ho0) hb)
   have n4_ := Aside0.mk (Kd.R_lower (Kd.R_new' (Kd.R_new' (Kd.R_new' (Kd.R_new' ho0 (Kd.R_lt zat10)) (Kd.R_lt zat12)) (Kd.R_lt zat9)) (Kd.R_lt zat8)) (below_size zat1))
   have n5_ := Aside0.mk (blk_below (g := gb1199) (o := .cells #[.int .i64 a0_0, .int .i64 a0_1, .slice A0_2 l0_2.length c0_2] 24 (0, 0)) zat2 hb)
   have n6_ := Aside0.mk (blk_below (g := gb1200) (o := .cells #[.int .i64 a1_0, .int .i64 a1_1] 26 (0, 0)) zat4 hb)
   have n7_ := Aside0.mk (blk_below (g := gb1221) (o := .cells #[.int .i64 t1216, .int .i64 t1217, .slice Ao41 t1218.length co41] 30 (0, 0)) zat7 hb)
   have n8_ := Aside0.mk (below_step zat1 hb)
   clear HO_8
   clear HO_11
   clear HO_12
   clear HO_1222002
   clear BK1199
   clear BK1200
   clear BK1221
   clear HB
   have HO_8 := n0_
   have HO_11 := n1_
   have HO_12 := n2_
   have HO_1222002 := n3_
   have HO1236 := n4_
   have BK1199 := n5_
   have BK1200 := n6_
   have BK1221 := n7_
   have HB := n8_
   clear n0_ n1_ n2_ n3_ n4_ n5_ n6_ n7_ n8_
   (try clear hb)
   (try clear hb2)
   (try clear hk)
   (try clear hi)
   (try clear ho0)
   (try clear hna_)
   (try clear hnb_)
   obtain ⟨Ao65, co65, eo65⟩ := Kd.R_slice HO1236.out
   (first | subst eo65 | (injection eo65 with f1_ f2_ f3_; have f4_ := f1_.symm; have f5_ := f3_.symm; clear f1_ f2_ f3_; subst f4_; subst f5_))
   refine hK.out _ _ ⟨(blk_cell BK1221.out 0).trans rfl, (blk_cell BK1221.out 1).trans rfl, (blk_cell BK1221.out 2).trans rfl, (blk_cell BK1199.out 0).trans rfl, (blk_cell BK1199.out 1).trans rfl, (blk_cell BK1199.out 2).trans rfl⟩ (fun hHeld => ?_)
   clear hK K
   refine norm_ (a' := ?_) ?_ ?_
   rotate_left
   ·show Act.put _ (some 60) _ = _
    simp only [Act.put, List.setIfInBounds_toArray, List.set_cons_zero, List.set_cons_succ, i64_w, i32_w]
    rfl
   refine one_ (i := 3) (N := some 61) #[true, true, true, true, false] rfl rfl (by kernel_rfl) (by decide) (fun K hK => ?_)
   refine goes_ Try.func21 (by kernel_rfl) rfl #[.agg #[.int .i64 t1216, .int .i64 t1217, .slice Ao41 t1218.length co41], .agg #[.int .i64 t1232, .int .i64 t1233, .slice Ao65 t1234.length co65]] (by rfl) rfl rfl zat3 ?_
   with_reducible refine (laws_eqBoard.calls kj21 t1216 t1217 _ _ t1218 t1232 t1233 _ _ t1234 true _ ?side1 ?side2 ?side3 ?side4 A55.out).mono ?_
   (case side1 => exact zat29)
   (case side2 => exact (Kd.R_reads' HO_1222002.out).2.1)
   (case side3 => exact zat30)
   (case side4 => exact (Kd.R_reads' HO1236.out).2.1)
   rintro e w66 ⟨rfl, hb⟩
   refine ⟨_, rfl, ?_⟩
   have n0_ := Aside0.mk (Kd.R_below zat10 hb)
   have n1_ := Aside0.mk (Kd.R_below zat12 hb)
   have n2_ := Aside0.mk (Kd.R_below zat9 hb)
   have n3_ := Aside0.mk (Kd.R_below zat8 hb)
   have n4_ := Aside0.mk (Kd.R_below zat19 hb)
   have n5_ := Aside0.mk (blk_below (g := gb1199) (o := .cells #[.int .i64 a0_0, .int .i64 a0_1, .slice A0_2 l0_2.length c0_2] 24 (0, 0)) zat2 hb)
   have n6_ := Aside0.mk (blk_below (g := gb1200) (o := .cells #[.int .i64 a1_0, .int .i64 a1_1] 26 (0, 0)) zat4 hb)
   have n7_ := Aside0.mk (blk_below (g := gb1221) (o := .cells #[.int .i64 t1216, .int .i64 t1217, .slice Ao41 t1218.length co41] 30 (0, 0)) zat7 hb)
   have n8_ := Aside0.mk (below_step zat1 hb)
   clear HO_8
   clear HO_11
   clear HO_12
   clear HO_1222002
   clear HO1236
   clear BK1199
   clear BK1200
   clear BK1221
   clear HB
   have HO_8 := n0_
   have HO_11 := n1_
   have HO_12 := n2_
   have HO_1222002 := n3_
   have HO1236 := n4_
   have BK1199 := n5_
   have BK1200 := n6_
   have BK1221 := n7_
   have HB := n8_
   clear n0_ n1_ n2_ n3_ n4_ n5_ n6_ n7_ n8_
   (try clear hb)
   (try clear hb2)
   (try clear hk)
   (try clear hi)
   (try clear hna_)
   (try clear hnb_)
   refine hK.out _ _ ⟨(blk_cell BK1221.out 0).trans rfl, (blk_cell BK1221.out 1).trans rfl, (blk_cell BK1221.out 2).trans rfl, (blk_cell BK1199.out 0).trans rfl, (blk_cell BK1199.out 1).trans rfl, (blk_cell BK1199.out 2).trans rfl⟩ (fun hHeld => ?_)
   clear hK K
   refine norm_ (a' := ?_) ?_ ?_
   rotate_left
   ·show Act.put _ (some 61) _ = _
    simp only [Act.put, List.setIfInBounds_toArray, List.set_cons_zero, List.set_cons_succ, i64_w, i32_w]
    rfl
   refine pure_ (i := 4) (N := some 62) (v := ?_) (a' := ?_) #[true, true, true, true, true] rfl rfl (by kernel_rfl) (fun _ _ _ h => h) (Or.inl ⟨by rfl, ?_⟩) ?_ ?_
   rotate_left
   ·intro w'
    go_simp
    with_reducible rfl
   rotate_left
   ·simp only [Act.put, List.setIfInBounds_toArray, List.set_cons_zero, List.set_cons_succ, i64_w, i32_w]
    rfl
   refine done_ (by kernel_rfl) ?_
   go_upto_region 20 with (first | ((with_reducible refine gate_callee (f := 19) rfl ?_); refine goesL_ (some 65) rfl rfl Try.func19 (by kernel_rfl) rfl #[.slice A2 l2.length c2] rfl zat3 ?_; (with_reducible refine (laws_toIntS.calls kj21 _ _ l2 t1238 _ ?side1 ?side2 A57.out).mono ?_); (case side1 => exact zat21); (case side2 => exact HC2.out); rintro e w67 ⟨v1239, rfl, ho0, hb⟩; refine ⟨_, rfl, ?_⟩; have n0_ := Aside0.mk (Kd.R_elder' zat10 (Kd.R_base ho0) hb); have n1_ := Aside0.mk (Kd.R_elder' zat12 (Kd.R_base ho0) hb); have n2_ := Aside0.mk (Kd.R_elder' zat9 (Kd.R_base ho0) hb); have n3_ := Aside0.mk (Kd.R_elder' zat8 (Kd.R_base ho0) hb); have n4_ := Aside0.mk (Kd.R_elder' zat19 (Kd.R_base ho0) hb); have n5_ := Aside0.mk (Kd.R_lower (Kd.R_new' (Kd.R_new' (Kd.R_new' (Kd.R_new' (Kd.R_new' ho0 (Kd.R_lt zat10)) (Kd.R_lt zat12)) (Kd.R_lt zat9)) (Kd.R_lt zat8)) (Kd.R_lt zat19)) (below_size zat1)); have n6_ := Aside0.mk (blk_below (g := gb1199) (o := .cells #[.int .i64 a0_0, .int .i64 a0_1, .slice A0_2 l0_2.length c0_2] 24 (0, 0)) zat2 hb); have n7_ := Aside0.mk (blk_below (g := gb1200) (o := .cells #[.int .i64 a1_0, .int .i64 a1_1] 26 (0, 0)) zat4 hb); have n8_ := Aside0.mk (blk_below (g := gb1221) (o := .cells #[.int .i64 t1216, .int .i64 t1217, .slice Ao41 t1218.length co41] 30 (0, 0)) zat7 hb); have n9_ := Aside0.mk (below_step zat1 hb); clear HO_8; clear HO_11; clear HO_12; clear HO_1222002; clear HO1236; clear BK1199; clear BK1200; clear BK1221; clear HB; have HO_8 := n0_; have HO_11 := n1_; have HO_12 := n2_; have HO_1222002 := n3_; have HO1236 := n4_; have HO1240 := n5_; have BK1199 := n6_; have BK1200 := n7_; have BK1221 := n8_; have HB := n9_; clear n0_ n1_ n2_ n3_ n4_ n5_ n6_ n7_ n8_ n9_; (try clear hb); (try clear hb2); (try clear hk); (try clear hi); (try clear ho0); (try clear hna_); (try clear hnb_); obtain ⟨Ao68, co68, eo68⟩ := Kd.R_slice HO1240.out; subst eo68) | ((with_reducible refine gate_callee (f := 22) rfl ?_); refine goesL_ (some 66) rfl rfl Try.func22 (by kernel_rfl) rfl #[.slice Ao45 t1222.length co45, .slice Ao68 t1238.length co68] rfl zat3 ?_; (with_reducible refine (laws_eqIntS.calls kj21 _ _ t1222 _ _ t1238 true _ ?side1 ?side2 ?side3 ?side4 A58.out).mono ?_); (case side1 => exact zat48); (case side2 => exact (Kd.R_reads' HO_11.out).2.1); (case side3 => exact zat45); (case side4 => exact (Kd.R_reads' HO1240.out).2.1); rintro e w' ⟨rfl, ⟨nd, rfl⟩⟩; refine ⟨_, rfl, ?_⟩; have hnb69 := NB1221_1199.out; have hnc69 := NB1199_1221.out; have hnb70 := NB1221_1200.out; have hnc70 := NB1200_1221.out; have hcz71_0 : w67.cell? ⟨gb1221, 0, none⟩ = some (.int .i64 t1216) := (blk_cell BK1221.out 0).trans rfl; have hcz71_1 : w67.cell? ⟨gb1221, 1, none⟩ = some (.int .i64 t1217) := (blk_cell BK1221.out 1).trans rfl; have hcz71_2 : w67.cell? ⟨gb1221, 2, none⟩ = some (.slice Ao41 t1218.length co41) := (blk_cell BK1221.out 2).trans rfl; have hfz71_0 := blk_frozen BK1221.out 0; have hfz71_1 := blk_frozen BK1221.out 1; have hfz71_2 := blk_frozen BK1221.out 2) | ((with_reducible refine gate_callee (f := 31) rfl ?_); refine goesL_ (some 70) rfl rfl Try.func31 (by kernel_rfl) rfl #[.agg #[.int .i64 t1216, .int .i64 t1217, .slice Ao41 t1218.length co41], .int .i64 1] rfl zat3 ?_; (with_reducible refine (laws_markBoard.calls kj21 t1216 t1217 (fun k_ => some k_ = (.slice Ao41 t1218.length co41 : Value).ownBlock) (.slice Ao41 t1218.length co41) t1218 1 t1242 t1243 w _ ?side1 ?side2 A60.out).mono ?_); (case side1 => exact zat1); (case side2 => exact Kd.R_tight rfl HO_1222002.out); rintro e w72 ⟨rfl, hy0, hb, hkp⟩; refine ⟨_, rfl, ?_⟩; have n0_ := Aside0.mk (Kd.R_mono (ok' := fun k_ => some k_ ≠ (.slice Ao45 t1222.length co45 : Value).ownBlock ∧ some k_ ≠ (v1228 : Value).ownBlock ∧ some k_ ≠ (.slice Ao41 t1218.length co41 : Value).ownBlock ∧ some k_ ≠ (.slice Ao65 t1234.length co65 : Value).ownBlock ∧ some k_ ≠ (.slice Ao68 t1238.length co68 : Value).ownBlock) (Kd.R_keptB (HO_8.out) hkp (fun k_ hk_ hs_ => (hk_.1.1.2.2) hs_)) (fun k_ hk_ => ⟨hk_.1.1.1.1, hk_.1.1.1.2.1, hk_.1.1.1.2.2, hk_.1.1.2, hk_.1.2⟩)); have n1_ := Aside0.mk (Kd.R_mono (ok' := fun k_ => some k_ ≠ (v1213 : Value).ownBlock ∧ some k_ ≠ (v1228 : Value).ownBlock ∧ some k_ ≠ (.slice Ao41 t1218.length co41 : Value).ownBlock ∧ some k_ ≠ (.slice Ao65 t1234.length co65 : Value).ownBlock ∧ some k_ ≠ (.slice Ao68 t1238.length co68 : Value).ownBlock) (Kd.R_keptB (HO_11.out) hkp (fun k_ hk_ hs_ => (hk_.1.1.2.2) hs_)) (fun k_ hk_ => ⟨hk_.1.1.1.1, hk_.1.1.1.2.1, hk_.1.1.1.2.2, hk_.1.1.2, hk_.1.2⟩)); have n2_ := Aside0.mk (Kd.R_mono (ok' := fun k_ => some k_ ≠ (v1213 : Value).ownBlock ∧ some k_ ≠ (.slice Ao45 t1222.length co45 : Value).ownBlock ∧ some k_ ≠ (.slice Ao41 t1218.length co41 : Value).ownBlock ∧ some k_ ≠ (.slice Ao65 t1234.length co65 : Value).ownBlock ∧ some k_ ≠ (.slice Ao68 t1238.length co68 : Value).ownBlock) (Kd.R_keptB (HO_12.out) hkp (fun k_ hk_ hs_ => (hk_.1.1.2.2) hs_)) (fun k_ hk_ => ⟨hk_.1.1.1.1, hk_.1.1.1.2.1, hk_.1.1.1.2.2, hk_.1.1.2, hk_.1.2⟩)); have n3_ := Aside0.mk (Kd.R_reok rfl hy0 (fun k_ e_ => HO_1222002.out.1 k_ e_)); have n4_ := Aside0.mk (blk_kept zat2 hkp (fun hs_ => (fun e_ => (Kd.R_ne HO_1222002.out BK1199.out (by decide)) e_) hs_)); have n5_ := Aside0.mk (blk_kept zat4 hkp (fun hs_ => (fun e_ => (Kd.R_ne HO_1222002.out BK1200.out (by decide)) e_) hs_)); have n6_ := Aside0.mk (blk_kept zat7 hkp (fun hs_ => (fun e_ => (Kd.R_ne HO_1222002.out BK1221.out (by decide)) e_) hs_)); have n7_ := Aside0.mk (Kd.R_mono (ok' := fun k_ => some k_ ≠ (v1213 : Value).ownBlock ∧ some k_ ≠ (.slice Ao45 t1222.length co45 : Value).ownBlock ∧ some k_ ≠ (v1228 : Value).ownBlock ∧ some k_ ≠ (.slice Ao41 t1218.length co41 : Value).ownBlock ∧ some k_ ≠ (.slice Ao68 t1238.length co68 : Value).ownBlock) (Kd.R_keptB (HO1236.out) hkp (fun k_ hk_ hs_ => (hk_.1.2) hs_)) (fun k_ hk_ => ⟨hk_.1.1.1.1.1.2, hk_.1.1.1.1.2, hk_.1.1.1.2, hk_.1.1.2, hk_.1.2⟩)); have n8_ := Aside0.mk (Kd.R_mono (ok' := fun k_ => some k_ ≠ (v1213 : Value).ownBlock ∧ some k_ ≠ (.slice Ao45 t1222.length co45 : Value).ownBlock ∧ some k_ ≠ (v1228 : Value).ownBlock ∧ some k_ ≠ (.slice Ao41 t1218.length co41 : Value).ownBlock ∧ some k_ ≠ (.slice Ao65 t1234.length co65 : Value).ownBlock) (Kd.R_keptB (HO1240.out) hkp (fun k_ hk_ hs_ => (hk_.1.2) hs_)) (fun k_ hk_ => ⟨hk_.1.1.1.1.1.2, hk_.1.1.1.1.2, hk_.1.1.1.2, hk_.1.1.2, hk_.1.2⟩)); have n9_ := Aside0.mk (hb); clear HO_8; clear HO_11; clear HO_12; clear HO_1222002; clear BK1199; clear BK1200; clear BK1221; clear HO1236; clear HO1240; clear HB; have HO_8 := n0_; have HO_11 := n1_; have HO_12 := n2_; have HO_1222002 := n3_; have BK1199 := n4_; have BK1200 := n5_; have BK1221 := n6_; have HO1236 := n7_; have HO1240 := n8_; have HB := n9_; clear n0_ n1_ n2_ n3_ n4_ n5_ n6_ n7_ n8_ n9_; (try clear hb); (try clear hkp); (try clear hy0)) | ((with_reducible refine gate_callee (f := 32) rfl ?_); refine goesL_ (some 73) rfl rfl Try.func32 (by kernel_rfl) rfl #[.slice Ao45 t1222.length co45, .int .i64 t1242] rfl zat3 ?_; (with_reducible refine (laws_markIntS.calls kj21 (fun k_ => some k_ = (.slice Ao45 t1222.length co45 : Value).ownBlock) (.slice Ao45 t1222.length co45) t1222 t1242 t1244 t1245 w _ ?side1 ?side2 A61.out).mono ?_); (case side1 => exact zat1); (case side2 => exact Kd.R_tight rfl HO_11.out); rintro e w73 ⟨rfl, hy0, hb, hkp⟩; refine ⟨_, rfl, ?_⟩; have n0_ := Aside0.mk (Kd.R_mono (ok' := fun k_ => some k_ ≠ (.slice Ao45 t1222.length co45 : Value).ownBlock ∧ some k_ ≠ (v1228 : Value).ownBlock ∧ some k_ ≠ (.slice Ao41 t1218.length co41 : Value).ownBlock ∧ some k_ ≠ (.slice Ao65 t1234.length co65 : Value).ownBlock ∧ some k_ ≠ (.slice Ao68 t1238.length co68 : Value).ownBlock) (Kd.R_keptB (HO_8.out) hkp (fun k_ hk_ hs_ => (hk_.1) hs_)) (fun k_ hk_ => ⟨hk_.1.1, hk_.1.2.1, hk_.1.2.2.1, hk_.1.2.2.2.1, hk_.1.2.2.2.2⟩)); have n1_ := Aside0.mk (Kd.R_reok rfl hy0 (fun k_ e_ => HO_11.out.1 k_ e_)); have n2_ := Aside0.mk (Kd.R_mono (ok' := fun k_ => some k_ ≠ (v1213 : Value).ownBlock ∧ some k_ ≠ (.slice Ao45 t1222.length co45 : Value).ownBlock ∧ some k_ ≠ (.slice Ao41 t1218.length co41 : Value).ownBlock ∧ some k_ ≠ (.slice Ao65 t1234.length co65 : Value).ownBlock ∧ some k_ ≠ (.slice Ao68 t1238.length co68 : Value).ownBlock) (Kd.R_keptB (HO_12.out) hkp (fun k_ hk_ hs_ => (hk_.2.1) hs_)) (fun k_ hk_ => ⟨hk_.1.1, hk_.1.2.1, hk_.1.2.2.1, hk_.1.2.2.2.1, hk_.1.2.2.2.2⟩)); have n3_ := Aside0.mk (Kd.R_mono (ok' := fun k_ => some k_ ≠ (v1213 : Value).ownBlock ∧ some k_ ≠ (.slice Ao45 t1222.length co45 : Value).ownBlock ∧ some k_ ≠ (v1228 : Value).ownBlock ∧ some k_ ≠ (.slice Ao65 t1234.length co65 : Value).ownBlock ∧ some k_ ≠ (.slice Ao68 t1238.length co68 : Value).ownBlock) (Kd.R_keptB (HO_1222002.out) hkp (fun k_ hk_ hs_ => (hk_.1.1.2.1) hs_)) (fun k_ hk_ => ⟨hk_.1.1.1.1, hk_.1.1.1.2.1, hk_.1.1.1.2.2, hk_.1.1.2, hk_.1.2⟩)); have n4_ := Aside0.mk (blk_kept zat2 hkp (fun hs_ => (fun e_ => (Kd.R_ne HO_11.out BK1199.out (by decide)) e_) hs_)); have n5_ := Aside0.mk (blk_kept zat4 hkp (fun hs_ => (fun e_ => (Kd.R_ne HO_11.out BK1200.out (by decide)) e_) hs_)); have n6_ := Aside0.mk (blk_kept zat7 hkp (fun hs_ => (fun e_ => (Kd.R_ne HO_11.out BK1221.out (by decide)) e_) hs_)); have n7_ := Aside0.mk (Kd.R_mono (ok' := fun k_ => some k_ ≠ (v1213 : Value).ownBlock ∧ some k_ ≠ (.slice Ao45 t1222.length co45 : Value).ownBlock ∧ some k_ ≠ (v1228 : Value).ownBlock ∧ some k_ ≠ (.slice Ao41 t1218.length co41 : Value).ownBlock ∧ some k_ ≠ (.slice Ao68 t1238.length co68 : Value).ownBlock) (Kd.R_keptB (HO1236.out) hkp (fun k_ hk_ hs_ => (hk_.2.1) hs_)) (fun k_ hk_ => ⟨hk_.1.1, hk_.1.2.1, hk_.1.2.2.1, hk_.1.2.2.2.1, hk_.1.2.2.2.2⟩)); have n8_ := Aside0.mk (Kd.R_mono (ok' := fun k_ => some k_ ≠ (v1213 : Value).ownBlock ∧ some k_ ≠ (.slice Ao45 t1222.length co45 : Value).ownBlock ∧ some k_ ≠ (v1228 : Value).ownBlock ∧ some k_ ≠ (.slice Ao41 t1218.length co41 : Value).ownBlock ∧ some k_ ≠ (.slice Ao65 t1234.length co65 : Value).ownBlock) (Kd.R_keptB (HO1240.out) hkp (fun k_ hk_ hs_ => (hk_.2.1) hs_)) (fun k_ hk_ => ⟨hk_.1.1, hk_.1.2.1, hk_.1.2.2.1, hk_.1.2.2.2.1, hk_.1.2.2.2.2⟩)); have n9_ := Aside0.mk (hb); clear HO_8; clear HO_11; clear HO_12; clear HO_1222002; clear BK1199; clear BK1200; clear BK1221; clear HO1236; clear HO1240; clear HB; have HO_8 := n0_; have HO_11 := n1_; have HO_12 := n2_; have HO_1222002 := n3_; have BK1199 := n4_; have BK1200 := n5_; have BK1221 := n6_; have HO1236 := n7_; have HO1240 := n8_; have HB := n9_; clear n0_ n1_ n2_ n3_ n4_ n5_ n6_ n7_ n8_ n9_; (try clear hb); (try clear hkp); (try clear hy0)))
   (try simp only [Act.put, List.setIfInBounds_toArray, List.set_cons_zero, List.set_cons_succ])
   go_cut [86] (fun v86 wc => ∃ (kq : Nat) (x86_61 : Bool), v86 = .bool x86_61 ∧ Aside0 (laws_FnExactRowSumsOf.j1 kq l2 t1212 t1215 t1227 x86_61 a0_0 a0_1 l0_2 a1_0 a1_1 = some r) ∧ Aside0 (kq ≤ kj21) ∧ Aside0 (Kd.R (Kd.int .i64) 3 wc w.heap.size (fun k_ => some k_ ≠ (v1228 : Value).ownBlock ∧ some k_ ≠ ((.slice Ao41 t1218.length co41) : Value).ownBlock) v1213 t1212) ∧ Aside0 (Kd.R (Kd.int .i64) 3 wc w.heap.size (fun k_ => some k_ ≠ (v1213 : Value).ownBlock ∧ some k_ ≠ ((.slice Ao41 t1218.length co41) : Value).ownBlock) v1228 t1227) ∧ Aside0 (Kd.R (Kd.int .i64) 3 wc w.heap.size (fun k_ => some k_ ≠ (v1213 : Value).ownBlock ∧ some k_ ≠ (v1228 : Value).ownBlock) (.slice Ao41 t1218.length co41) t1243) ∧ Aside0 (wc.heap[gb1199]? = some (.cells #[.int .i64 a0_0, .int .i64 a0_1, (.slice A0_2 l0_2.length c0_2)] 24 (0, 0))) ∧ Aside0 (wc.heap[gb1200]? = some (.cells #[.int .i64 a1_0, .int .i64 a1_1] 26 (0, 0))) ∧ Aside0 (wc.heap[gb1221]? = some (.cells #[.int .i64 t1216, .int .i64 t1217, (.slice Ao41 t1218.length co41)] 30 (0, 0))) ∧ Aside0 (Below w.heap.size w wc))
   case first =>
    have H := HC62.out
    clear HC62
    by_cases c74 : t1244 < 0
    ·rw [if_pos c74] at H
     have c74b0 : decide (t1244 < 0) = true := decide_eq_true c74
     clear c74
     (first | rw [c74b0] | (simp only [i64_w, i32_w]; rw [c74b0]) | skip)
     have H' := Aside0.mk H
     clear H
     go_wp2
     go_meet
     case rel => exact ⟨_, (true), zat35, H', ⟨by have := HJ21.out; first | omega | exact Nat.le_refl _⟩, ⟨zat33⟩, ⟨zat34⟩, ⟨zat32⟩, ⟨zat2⟩, ⟨zat4⟩, ⟨zat7⟩, ⟨zat1⟩⟩
    rw [if_neg c74] at H
    have c74b0 : decide (t1244 < 0) = false := decide_eq_false c74
    clear c74
    (first | rw [c74b0] | (simp only [i64_w, i32_w]; rw [c74b0]) | skip)
    replace H := Option.bind_eq_some_iff.mp H
    obtain ⟨t1246, A750, H⟩ := H
    replace H : (if t1246 = true then (laws_FnExactRowSumsOf.j1 kj21 l2 t1212 t1215 t1227 (t1230 != t1215) a0_0 a0_1 l0_2 a1_0 a1_1) else (laws_FnExactRowSumsOf.j1 kj21 l2 t1212 t1215 t1227 true a0_0 a0_1 l0_2 a1_0 a1_1)) = some r := H
    have A75 := Aside0.mk A750
    clear A750
    by_cases c76 : t1246 = true
    ·subst c76
     have H1 : (laws_FnExactRowSumsOf.j1 kj21 l2 t1212 t1215 t1227 (t1230 != t1215) a0_0 a0_1 l0_2 a1_0 a1_1) = some r := by rw [if_pos rfl] at H; exact H
     clear H
     have H := H1
     clear H1
     have H' := Aside0.mk H
     clear H
     obtain ⟨Ao77, co77, eo77⟩ := Kd.R_slice HO_12.out
     subst eo77
     obtain ⟨Ao78, co78, eo78⟩ := Kd.R_slice HO_8.out
     subst eo78
     go_wp2_with (first | (go_at_call 22; (with_reducible refine (laws_eqIntS.calls kj21 _ _ t1227 _ _ t1212 true _ ?side1 ?side2 ?side3 ?side4 A75.out).mono ?_); (case side1 => exact zat14); (case side2 => exact (Kd.R_reads' HO_12.out).2.1); (case side3 => exact zat22); (case side4 => exact (Kd.R_reads' HO_8.out).2.1); rintro e w' ⟨rfl, ⟨nd, rfl⟩⟩))
     go_meet
     case rel => exact ⟨_, ((t1230 != t1215)), zat35, H', ⟨by have := HJ21.out; first | omega | exact Nat.le_refl _⟩, ⟨zat33⟩, ⟨zat34⟩, ⟨zat32⟩, ⟨zat2⟩, ⟨zat4⟩, ⟨zat7⟩, ⟨zat1⟩⟩
    replace c76 := Bool.eq_false_iff.mpr c76
    subst c76
    have H1 : (laws_FnExactRowSumsOf.j1 kj21 l2 t1212 t1215 t1227 true a0_0 a0_1 l0_2 a1_0 a1_1) = some r := by rw [if_neg (show ¬ (false = true) by decide)] at H; exact H
    clear H
    have H := H1
    clear H1
    have H' := Aside0.mk H
    clear H
    obtain ⟨Ao79, co79, eo79⟩ := Kd.R_slice HO_12.out
    subst eo79
    obtain ⟨Ao80, co80, eo80⟩ := Kd.R_slice HO_8.out
    subst eo80
    go_wp2_with (first | (go_at_call 22; (with_reducible refine (laws_eqIntS.calls kj21 _ _ t1227 _ _ t1212 false _ ?side1 ?side2 ?side3 ?side4 A75.out).mono ?_); (case side1 => exact zat14); (case side2 => exact (Kd.R_reads' HO_12.out).2.1); (case side3 => exact zat22); (case side4 => exact (Kd.R_reads' HO_8.out).2.1); rintro e w' ⟨rfl, ⟨nd, rfl⟩⟩))
    go_meet
    case rel => exact ⟨_, (true), zat35, H', ⟨by have := HJ21.out; first | omega | exact Nat.le_refl _⟩, ⟨zat33⟩, ⟨zat34⟩, ⟨zat32⟩, ⟨zat2⟩, ⟨zat4⟩, ⟨zat7⟩, ⟨zat1⟩⟩
   case rest =>
    clear HC62
    try clear c1; try clear c2; try clear p2; try clear c3; try clear c4; try clear c4b0; try clear c4b1; try clear c5; try clear c6; try clear c7; try clear c8; try clear c8b0; try clear c11; try clear c13; try clear c15; try clear c17; try clear c18; try clear c19; try clear c21; try clear c22; try clear c25; try clear c31; try clear c32; try clear c38; try clear c39; try clear c44; try clear c45; try clear c48; try clear c53; try clear c56; try clear c59; try clear c69; try clear c70; try clear c74; try clear c74b0; try clear c76; try clear hcz12_0; try clear hcz12_1; try clear hcz12_2; try clear hcz26_0
    try clear hcz26_1; try clear hcz26_2; try clear hcz35_0; try clear hcz35_1; try clear hcz35_2; try clear hcz40_0; try clear hcz40_1; try clear hcz40_2; try clear hcz71_0; try clear hcz71_1; try clear hcz71_2; try clear hfz12_0; try clear hfz12_1; try clear hfz12_2; try clear hfz26_0; try clear hfz26_1; try clear hfz26_2; try clear hfz35_0; try clear hfz35_1; try clear hfz35_2; try clear hfz40_0; try clear hfz40_1; try clear hfz40_2; try clear hfz71_0; try clear hfz71_1; try clear hfz71_2; try clear p2
    obtain ⟨kq, x86_61, rfl, HA, HJ61, HO_8, HO_12, HO_1222002, BK1199, BK1200, BK1221, HB⟩ := hcut
    have hl1222002_61 := (Kd.R_reads' HO_1222002.out).1
    rw [hl1222002_61] at HO_1222002
    (try simp only [hl1222002_61])
    (try simp only [hl1222002_61] at BK1199)
    (try simp only [hl1222002_61] at BK1200)
    (try simp only [hl1222002_61] at BK1221)
    (try simp only [hl1222002_61] at HO_8)
    (try simp only [hl1222002_61] at HO_12)
    cases kq with
    | zero => exact absurd HA.out (by simp [laws_FnExactRowSumsOf.j1])
    | succ kj61 =>
     have H := HA.out
     clear HA
     simp only [laws_FnExactRowSumsOf.j1] at H
     by_cases c81 : x86_61 = true
     ·subst c81
      have H1 : (some false) = some r := by rw [if_pos rfl] at H; exact H
      clear H
      have H := H1
      clear H1
      obtain rfl := Option.some.inj H
      go_wp2
      go_ret
      exact ⟨zat17, zat1⟩
     replace c81 := Bool.eq_false_iff.mpr c81
     subst c81
     have H1 : ((laws_markIntS.f kj61 t1227 1).bind fun bt1247 => ((laws_heldIntS.f kj61 bt1247.2 1).bind fun t1249 => (if t1249 < 0 then (some false) else (if t1249 = bt1247.1 then ((laws_toBoard.f kj61 a0_0 a0_1 l0_2).bind fun bt1250 => ((laws_toLeaper.f a1_0 a1_1).bind fun bt1255 => ((laws_toIntS.f kj61 l2).bind fun t1257 => ((impl_RowSumsOf.f kj61 bt1250.1 bt1250.2.1 bt1250.2.2 bt1255.1 bt1255.2 t1257).bind fun bt1260 => ((laws_eqIntS.f kj61 bt1260.1 t1212).bind fun t1264 => (if t1264 = true then (laws_FnExactRowSumsOf.j2 kj61 bt1247.2 bt1247.1 (bt1260.2 != t1215)) else (laws_FnExactRowSumsOf.j2 kj61 bt1247.2 bt1247.1 true))))))) else (some false))))) = some r := by rw [if_neg (show ¬ (false = true) by decide)] at H; exact H
     clear H
     have H := H1
     clear H1
     replace H := Option.bind_eq_some_iff.mp H
     obtain ⟨⟨t1247, t1248⟩, A820, H⟩ := H
     replace H : ((laws_heldIntS.f kj61 t1248 1).bind fun t1249 => (if t1249 < 0 then (some false) else (if t1249 = t1247 then ((laws_toBoard.f kj61 a0_0 a0_1 l0_2).bind fun bt1250 => ((laws_toLeaper.f a1_0 a1_1).bind fun bt1255 => ((laws_toIntS.f kj61 l2).bind fun t1257 => ((impl_RowSumsOf.f kj61 bt1250.1 bt1250.2.1 bt1250.2.2 bt1255.1 bt1255.2 t1257).bind fun bt1260 => ((laws_eqIntS.f kj61 bt1260.1 t1212).bind fun t1264 => (if t1264 = true then (laws_FnExactRowSumsOf.j2 kj61 t1248 t1247 (bt1260.2 != t1215)) else (laws_FnExactRowSumsOf.j2 kj61 t1248 t1247 true))))))) else (some false)))) = some r := H
     have A82 := Aside0.mk A820
     clear A820
     replace H := Option.bind_eq_some_iff.mp H
     obtain ⟨t1249, A830, H⟩ := H
     replace H : (if t1249 < 0 then (some false) else (if t1249 = t1247 then ((laws_toBoard.f kj61 a0_0 a0_1 l0_2).bind fun bt1250 => ((laws_toLeaper.f a1_0 a1_1).bind fun bt1255 => ((laws_toIntS.f kj61 l2).bind fun t1257 => ((impl_RowSumsOf.f kj61 bt1250.1 bt1250.2.1 bt1250.2.2 bt1255.1 bt1255.2 t1257).bind fun bt1260 => ((laws_eqIntS.f kj61 bt1260.1 t1212).bind fun t1264 => (if t1264 = true then (laws_FnExactRowSumsOf.j2 kj61 t1248 t1247 (bt1260.2 != t1215)) else (laws_FnExactRowSumsOf.j2 kj61 t1248 t1247 true))))))) else (some false))) = some r := H
     have A83 := Aside0.mk A830
     clear A830
     by_cases c84 : t1249 < 0
     ·rw [if_pos c84] at H
      have c84b0 : decide (t1249 < 0) = true := decide_eq_true c84
      clear c84
      obtain rfl := Option.some.inj H
      obtain ⟨Ao85, co85, eo85⟩ := Kd.R_slice HO_12.out
      subst eo85
      go_wp2_with (first | ((with_reducible refine gate_callee (f := 32) rfl ?_); refine goesL_ (some 89) rfl rfl Try.func32 (by kernel_rfl) rfl #[.slice Ao85 t1227.length co85, .int .i64 1] rfl zat3 ?_; (with_reducible refine (laws_markIntS.calls kj61 (fun k_ => some k_ = (.slice Ao85 t1227.length co85 : Value).ownBlock) (.slice Ao85 t1227.length co85) t1227 1 t1247 t1248 w _ ?side1 ?side2 A82.out).mono ?_); (case side1 => exact zat1); (case side2 => exact Kd.R_tight rfl HO_12.out); rintro e w86 ⟨rfl, hy0, hb, hkp⟩; refine ⟨_, rfl, ?_⟩; have n0_ := Aside0.mk (Kd.R_mono (ok' := fun k_ => some k_ ≠ (.slice Ao85 t1227.length co85 : Value).ownBlock ∧ some k_ ≠ (.slice Ao41 t1243.length co41 : Value).ownBlock) (Kd.R_keptB (HO_8.out) hkp (fun k_ hk_ hs_ => (hk_.1) hs_)) (fun k_ hk_ => ⟨hk_.1.1, hk_.1.2⟩)); have n1_ := Aside0.mk (Kd.R_reok rfl hy0 (fun k_ e_ => HO_12.out.1 k_ e_)); have n2_ := Aside0.mk (Kd.R_mono (ok' := fun k_ => some k_ ≠ (v1213 : Value).ownBlock ∧ some k_ ≠ (.slice Ao85 t1227.length co85 : Value).ownBlock) (Kd.R_keptB (HO_1222002.out) hkp (fun k_ hk_ hs_ => (hk_.2) hs_)) (fun k_ hk_ => ⟨hk_.1.1, hk_.1.2⟩)); have n3_ := Aside0.mk (blk_kept zat2 hkp (fun hs_ => (fun e_ => (Kd.R_ne HO_12.out BK1199.out (by decide)) e_) hs_)); have n4_ := Aside0.mk (blk_kept zat4 hkp (fun hs_ => (fun e_ => (Kd.R_ne HO_12.out BK1200.out (by decide)) e_) hs_)); have n5_ := Aside0.mk (blk_kept zat7 hkp (fun hs_ => (fun e_ => (Kd.R_ne HO_12.out BK1221.out (by decide)) e_) hs_)); have n6_ := Aside0.mk (hb); clear HO_8; clear HO_12; clear HO_1222002; clear BK1199; clear BK1200; clear BK1221; clear HB; have HO_8 := n0_; have HO_12 := n1_; have HO_1222002 := n2_; have BK1199 := n3_; have BK1200 := n4_; have BK1221 := n5_; have HB := n6_; clear n0_ n1_ n2_ n3_ n4_ n5_ n6_; (try clear hb); (try clear hkp); (try clear hy0)) | ((with_reducible refine gate_callee (f := 33) rfl ?_); refine goesL_ (some 92) rfl rfl Try.func33 (by kernel_rfl) rfl #[.slice Ao85 t1248.length co85, .int .i64 1] rfl zat23 ?_; (with_reducible refine (laws_heldIntS.calls kj61 _ _ t1248 1 t1249 _ ?side1 ?side2 A83.out).mono ?_); (case side1 => exact zat14); (case side2 => exact zat37); rintro e w' ⟨rfl, ⟨nd, rfl⟩⟩; refine ⟨_, rfl, ?_⟩))
      go_ret
      exact ⟨zat17, zat1⟩
     rw [if_neg c84] at H
     have c84b0 : decide (t1249 < 0) = false := decide_eq_false c84
     clear c84
     by_cases c87 : t1249 = t1247
     rotate_left
     ·rw [if_neg c87] at H
      have c87b0 : (t1249 == t1247) = false := beq_eq_false_iff_ne.mpr c87
      have c87b1 : (t1249 != t1247) = true := bne_iff_ne.mpr c87
      obtain rfl := Option.some.inj H
      obtain ⟨Ao112, co112, eo112⟩ := Kd.R_slice HO_12.out
      subst eo112
      go_wp2_with (first | ((with_reducible refine gate_callee (f := 32) rfl ?_); refine goesL_ (some 89) rfl rfl Try.func32 (by kernel_rfl) rfl #[.slice Ao112 t1227.length co112, .int .i64 1] rfl zat3 ?_; (with_reducible refine (laws_markIntS.calls kj61 (fun k_ => some k_ = (.slice Ao112 t1227.length co112 : Value).ownBlock) (.slice Ao112 t1227.length co112) t1227 1 t1247 t1248 w _ ?side1 ?side2 A82.out).mono ?_); (case side1 => exact zat1); (case side2 => exact Kd.R_tight rfl HO_12.out); rintro e w113 ⟨rfl, hy0, hb, hkp⟩; refine ⟨_, rfl, ?_⟩; have n0_ := Aside0.mk (Kd.R_mono (ok' := fun k_ => some k_ ≠ (.slice Ao112 t1227.length co112 : Value).ownBlock ∧ some k_ ≠ (.slice Ao41 t1243.length co41 : Value).ownBlock) (Kd.R_keptB (HO_8.out) hkp (fun k_ hk_ hs_ => (hk_.1) hs_)) (fun k_ hk_ => ⟨hk_.1.1, hk_.1.2⟩)); have n1_ := Aside0.mk (Kd.R_reok rfl hy0 (fun k_ e_ => HO_12.out.1 k_ e_)); have n2_ := Aside0.mk (Kd.R_mono (ok' := fun k_ => some k_ ≠ (v1213 : Value).ownBlock ∧ some k_ ≠ (.slice Ao112 t1227.length co112 : Value).ownBlock) (Kd.R_keptB (HO_1222002.out) hkp (fun k_ hk_ hs_ => (hk_.2) hs_)) (fun k_ hk_ => ⟨hk_.1.1, hk_.1.2⟩)); have n3_ := Aside0.mk (blk_kept zat2 hkp (fun hs_ => (fun e_ => (Kd.R_ne HO_12.out BK1199.out (by decide)) e_) hs_)); have n4_ := Aside0.mk (blk_kept zat4 hkp (fun hs_ => (fun e_ => (Kd.R_ne HO_12.out BK1200.out (by decide)) e_) hs_)); have n5_ := Aside0.mk (blk_kept zat7 hkp (fun hs_ => (fun e_ => (Kd.R_ne HO_12.out BK1221.out (by decide)) e_) hs_)); have n6_ := Aside0.mk (hb); clear HO_8; clear HO_12; clear HO_1222002; clear BK1199; clear BK1200; clear BK1221; clear HB; have HO_8 := n0_; have HO_12 := n1_; have HO_1222002 := n2_; have BK1199 := n3_; have BK1200 := n4_; have BK1221 := n5_; have HB := n6_; clear n0_ n1_ n2_ n3_ n4_ n5_ n6_; (try clear hb); (try clear hkp); (try clear hy0)) | ((with_reducible refine gate_callee (f := 33) rfl ?_); refine goesL_ (some 92) rfl rfl Try.func33 (by kernel_rfl) rfl #[.slice Ao112 t1248.length co112, .int .i64 1] rfl zat23 ?_; (with_reducible refine (laws_heldIntS.calls kj61 _ _ t1248 1 t1249 _ ?side1 ?side2 A83.out).mono ?_); (case side1 => exact zat14); (case side2 => exact zat37); rintro e w' ⟨rfl, ⟨nd, rfl⟩⟩; refine ⟨_, rfl, ?_⟩))
      go_ret
      exact ⟨zat17, zat1⟩
     rw [if_pos c87] at H
     have c87b0 : (t1249 == t1247) = true := beq_iff_eq.mpr c87
     have c87b1 : (t1249 != t1247) = false := bne_eq_false_iff_eq.mpr c87
     clear c87
     replace H := Option.bind_eq_some_iff.mp H
     obtain ⟨⟨t1250, t1251, t1252⟩, A880, H⟩ := H
     replace H : ((laws_toLeaper.f a1_0 a1_1).bind fun bt1255 => ((laws_toIntS.f kj61 l2).bind fun t1257 => ((impl_RowSumsOf.f kj61 t1250 t1251 t1252 bt1255.1 bt1255.2 t1257).bind fun bt1260 => ((laws_eqIntS.f kj61 bt1260.1 t1212).bind fun t1264 => (if t1264 = true then (laws_FnExactRowSumsOf.j2 kj61 t1248 t1247 (bt1260.2 != t1215)) else (laws_FnExactRowSumsOf.j2 kj61 t1248 t1247 true)))))) = some r := H
     have A88 := Aside0.mk A880
     clear A880
     replace H := Option.bind_eq_some_iff.mp H
     obtain ⟨⟨t1255, t1256⟩, A890, H⟩ := H
     replace H : ((laws_toIntS.f kj61 l2).bind fun t1257 => ((impl_RowSumsOf.f kj61 t1250 t1251 t1252 t1255 t1256 t1257).bind fun bt1260 => ((laws_eqIntS.f kj61 bt1260.1 t1212).bind fun t1264 => (if t1264 = true then (laws_FnExactRowSumsOf.j2 kj61 t1248 t1247 (bt1260.2 != t1215)) else (laws_FnExactRowSumsOf.j2 kj61 t1248 t1247 true))))) = some r := H
     have A89 := Aside0.mk A890
     clear A890
     replace H := Option.bind_eq_some_iff.mp H
     obtain ⟨t1257, A900, H⟩ := H
     replace H : ((impl_RowSumsOf.f kj61 t1250 t1251 t1252 t1255 t1256 t1257).bind fun bt1260 => ((laws_eqIntS.f kj61 bt1260.1 t1212).bind fun t1264 => (if t1264 = true then (laws_FnExactRowSumsOf.j2 kj61 t1248 t1247 (bt1260.2 != t1215)) else (laws_FnExactRowSumsOf.j2 kj61 t1248 t1247 true)))) = some r := H
     have A90 := Aside0.mk A900
     clear A900
     replace H := Option.bind_eq_some_iff.mp H
     obtain ⟨⟨t1260, t1263⟩, A910, H⟩ := H
     replace H : ((laws_eqIntS.f kj61 t1260 t1212).bind fun t1264 => (if t1264 = true then (laws_FnExactRowSumsOf.j2 kj61 t1248 t1247 (t1263 != t1215)) else (laws_FnExactRowSumsOf.j2 kj61 t1248 t1247 true))) = some r := H
     have A91 := Aside0.mk A910
     clear A910
     have HC92 := Aside0.mk H
     clear H
     obtain ⟨Ao93, co93, eo93⟩ := Kd.R_slice HO_12.out
     subst eo93
     try go_wp2_with (first | ((with_reducible refine gate_callee (f := 32) rfl ?_); refine goesL_ (some 89) rfl rfl Try.func32 (by kernel_rfl) rfl #[.slice Ao93 t1227.length co93, .int .i64 1] rfl zat3 ?_; (with_reducible refine (laws_markIntS.calls kj61 (fun k_ => some k_ = (.slice Ao93 t1227.length co93 : Value).ownBlock) (.slice Ao93 t1227.length co93) t1227 1 t1247 t1248 w _ ?side1 ?side2 A82.out).mono ?_); (case side1 => exact zat1); (case side2 => exact Kd.R_tight rfl HO_12.out); rintro e w94 ⟨rfl, hy0, hb, hkp⟩; refine ⟨_, rfl, ?_⟩; have n0_ := Aside0.mk (Kd.R_mono (ok' := fun k_ => some k_ ≠ (.slice Ao93 t1227.length co93 : Value).ownBlock ∧ some k_ ≠ (.slice Ao41 t1243.length co41 : Value).ownBlock) (Kd.R_keptB (HO_8.out) hkp (fun k_ hk_ hs_ => (hk_.1) hs_)) (fun k_ hk_ => ⟨hk_.1.1, hk_.1.2⟩)); have n1_ := Aside0.mk (Kd.R_reok rfl hy0 (fun k_ e_ => HO_12.out.1 k_ e_)); have n2_ := Aside0.mk (Kd.R_mono (ok' := fun k_ => some k_ ≠ (v1213 : Value).ownBlock ∧ some k_ ≠ (.slice Ao93 t1227.length co93 : Value).ownBlock) (Kd.R_keptB (HO_1222002.out) hkp (fun k_ hk_ hs_ => (hk_.2) hs_)) (fun k_ hk_ => ⟨hk_.1.1, hk_.1.2⟩)); have n3_ := Aside0.mk (blk_kept zat2 hkp (fun hs_ => (fun e_ => (Kd.R_ne HO_12.out BK1199.out (by decide)) e_) hs_)); have n4_ := Aside0.mk (blk_kept zat4 hkp (fun hs_ => (fun e_ => (Kd.R_ne HO_12.out BK1200.out (by decide)) e_) hs_)); have n5_ := Aside0.mk (blk_kept zat7 hkp (fun hs_ => (fun e_ => (Kd.R_ne HO_12.out BK1221.out (by decide)) e_) hs_)); have n6_ := Aside0.mk (hb); clear HO_8; clear HO_12; clear HO_1222002; clear BK1199; clear BK1200; clear BK1221; clear HB; have HO_8 := n0_; have HO_12 := n1_; have HO_1222002 := n2_; have BK1199 := n3_; have BK1200 := n4_; have BK1221 := n5_; have HB := n6_; clear n0_ n1_ n2_ n3_ n4_ n5_ n6_; (try clear hb); (try clear hkp); (try clear hy0)) | ((with_reducible refine gate_callee (f := 33) rfl ?_); refine goesL_ (some 92) rfl rfl Try.func33 (by kernel_rfl) rfl #[.slice Ao93 t1248.length co93, .int .i64 1] rfl zat23 ?_; (with_reducible refine (laws_heldIntS.calls kj61 _ _ t1248 1 t1249 _ ?side1 ?side2 A83.out).mono ?_); (case side1 => exact zat14); (case side2 => exact zat37); rintro e w' ⟨rfl, ⟨nd, rfl⟩⟩; refine ⟨_, rfl, ?_⟩))
     (try (rw [drewN_self w94]; generalize hq_ : World.drewN w94 _ = w94; have n0_ : Aside0 (Kd.R (Kd.int .i64) 3 w94 w.heap.size (fun k_ => (some k_ ≠ (v1213 : Value).ownBlock ∧ some k_ ≠ (.slice Ao41 t1243.length co41 : Value).ownBlock)) (.slice Ao93 t1227.length co93) t1248) := ⟨by rw [← hq_]; exact zat9⟩; have n1_ : Aside0 (Kd.R (Kd.int .i64) 3 w94 w.heap.size (fun k_ => (some k_ ≠ (v1213 : Value).ownBlock ∧ some k_ ≠ (.slice Ao93 t1227.length co93 : Value).ownBlock)) (.slice Ao41 t1243.length co41) t1243) := ⟨by rw [← hq_]; exact zat8⟩; have n2_ : Aside0 (Kd.R (Kd.int .i64) 3 w94 w.heap.size (fun k_ => (some k_ ≠ (.slice Ao93 t1227.length co93 : Value).ownBlock ∧ some k_ ≠ (.slice Ao41 t1243.length co41 : Value).ownBlock)) v1213 t1212) := ⟨by rw [← hq_]; exact zat10⟩; have n3_ : Aside0 (w94.heap[gb1199]? = some (.cells #[.int .i64 a0_0, .int .i64 a0_1, .slice A0_2 l0_2.length c0_2] 24 (0, 0))) := ⟨by rw [← hq_]; exact zat2⟩; have n4_ : Aside0 (w94.heap[gb1200]? = some (.cells #[.int .i64 a1_0, .int .i64 a1_1] 26 (0, 0))) := ⟨by rw [← hq_]; exact zat4⟩; have n5_ : Aside0 (w94.heap[gb1221]? = some (.cells #[.int .i64 t1216, .int .i64 t1217, .slice Ao41 t1243.length co41] 30 (0, 0))) := ⟨by rw [← hq_]; exact zat7⟩; have n6_ : Aside0 (Below w.heap.size w w94) := ⟨by rw [← hq_]; exact zat1⟩; clear HO_12 HO_1222002 HO_8 BK1199 BK1200 BK1221 HB hq_; have HO_12 := n0_; have HO_1222002 := n1_; have HO_8 := n2_; have BK1199 := n3_; have BK1200 := n4_; have BK1221 := n5_; have HB := n6_; clear n0_ n1_ n2_ n3_ n4_ n5_ n6_))
     have n0_ := Aside0.mk (Kd.R_drew HO_8.out)
     have n1_ := Aside0.mk (Kd.R_drew HO_12.out)
     have n2_ := Aside0.mk (Kd.R_drew HO_1222002.out)
     have n3_ := Aside0.mk (blk_drew BK1199.out)
     have n4_ := Aside0.mk (blk_drew BK1200.out)
     have n5_ := Aside0.mk (blk_drew BK1221.out)
     have n6_ := Aside0.mk (below_drew1 HB.out)
     clear HO_8
     clear HO_12
     clear HO_1222002
     clear BK1199
     clear BK1200
     clear BK1221
     clear HB
     have HO_8 := n0_
     have HO_12 := n1_
     have HO_1222002 := n2_
     have BK1199 := n3_
     have BK1200 := n4_
     have BK1221 := n5_
     have HB := n6_
     clear n0_ n1_ n2_ n3_ n4_ n5_ n6_
     refine start_ (n := 12) (S := fun w' => w'.cell? ⟨gb1199, 0, none⟩ = some (.int .i64 a0_0) ∧ w'.cell? ⟨gb1199, 1, none⟩ = some (.int .i64 a0_1) ∧ w'.cell? ⟨gb1199, 2, none⟩ = some (.slice A0_2 l0_2.length c0_2) ∧ w'.cell? ⟨gb1200, 0, none⟩ = some (.int .i64 a1_0) ∧ w'.cell? ⟨gb1200, 1, none⟩ = some (.int .i64 a1_1)) (ds := []) #[false, false, false, false, false, false, false, false, false, false, false, false] (by kernel_rfl) rfl rfl ⟨(blk_cell BK1199.out 0).trans rfl, (blk_cell BK1199.out 1).trans rfl, (blk_cell BK1199.out 2).trans rfl, (blk_cell BK1200.out 0).trans rfl, (blk_cell BK1200.out 1).trans rfl⟩ (fun hHeld => ?_); refine with_tabW laws_FnExactRowSumsOf.tab30 laws_FnExactRowSumsOf.bits30 (fun HT_ HW_ => ?_)
     generalize w94.drew = w95 at HO_8 HO_12 HO_1222002 BK1199 BK1200 BK1221 HB hHeld ⊢
     refine pure_ (i := 4) (N := some 103) (v := ?_) (a' := ?_) #[false, false, false, false, true, false, false, false, false, false, false, false] rfl rfl (any_of HT_.out (by kernel_rfl)) (fun _ _ _ h => h) (Or.inl ⟨by rfl, ?_⟩) ?_ ?_
     rotate_left
     ·intro w'
      go_simp
      with_reducible rfl
     rotate_left
     ·simp only [Act.put, List.setIfInBounds_toArray, List.set_cons_zero, List.set_cons_succ, i64_w, i32_w]
      rfl
     refine take_ (i := 0) (N := some 99) (v := ?_) (a' := ?_) #[true, false, false, false, true, false, false, false, false, false, false, false] rfl rfl (take_ofW HT_.out HW_.out (by kernel_rfl)) (fun _ _ _ h => h) (Or.inl ⟨by rfl, ?_⟩) hHeld ?_ ?_
     rotate_left
     ·rintro w' ⟨s0, s1, s2, s3, s4⟩
      go_simp
      with_reducible rfl
     rotate_left
     ·simp only [Act.put, List.setIfInBounds_toArray, List.set_cons_zero, List.set_cons_succ, i64_w, i32_w]
      rfl
     refine take_ (i := 2) (N := some 101) (v := ?_) (a' := ?_) #[true, false, true, false, true, false, false, false, false, false, false, false] rfl rfl (take_ofW HT_.out HW_.out (by kernel_rfl)) (fun _ _ _ h => h) (Or.inl ⟨by rfl, ?_⟩) hHeld ?_ ?_
     rotate_left
     ·rintro w' ⟨s0, s1, s2, s3, s4⟩
      go_simp
      with_reducible rfl
     rotate_left
     ·simp only [Act.put, List.setIfInBounds_toArray, List.set_cons_zero, List.set_cons_succ, i64_w, i32_w]
      rfl
     refine one_ (i := 1) (N := some 100) #[true, true, true, false, true, false, false, false, false, false, false, false] rfl rfl (one_of HT_.out (by kernel_rfl)) (by decide) (fun K hK => ?_)
     refine goes_ Try.func17 (by kernel_rfl) rfl #[.agg #[.int .i64 a0_0, .int .i64 a0_1, .slice A0_2 l0_2.length c0_2]] (by rfl) rfl rfl zat3 ?_
     with_reducible refine (laws_toBoard.calls kj61 a0_0 a0_1 _ _ l0_2 t1250 t1251 t1252 _ ?side1 ?side2 A88.out).mono ?_
     (case side1 => exact zat13)
     (case side2 => exact HC0_2.out)
     rintro e w96 ⟨v1253, rfl, ho0, hb⟩
     refine ⟨_, rfl, ?_⟩
     have n0_ := Aside0.mk (Kd.R_elder' zat10 (Kd.R_base ho0) hb)
     have n1_ := Aside0.mk (Kd.R_elder' zat9 (Kd.R_base ho0) hb)
     have n2_ := Aside0.mk (Kd.R_elder' zat8 (Kd.R_base ho0) hb)
     have n3_ := Aside0.mk (Kd.R_lower (Kd.R_new' (Kd.R_new' (Kd.R_new' ho0 (Kd.R_lt zat10)) (Kd.R_lt zat9)) (Kd.R_lt zat8)) (below_size zat1))
     have n4_ := Aside0.mk (blk_below (g := gb1199) (o := .cells #[.int .i64 a0_0, .int .i64 a0_1, .slice A0_2 l0_2.length c0_2] 24 (0, 0)) zat2 hb)
     have n5_ := Aside0.mk (blk_below (g := gb1200) (o := .cells #[.int .i64 a1_0, .int .i64 a1_1] 26 (0, 0)) zat4 hb)
     have n6_ := Aside0.mk (blk_below (g := gb1221) (o := .cells #[.int .i64 t1216, .int .i64 t1217, .slice Ao41 t1243.length co41] 30 (0, 0)) zat7 hb)
     have n7_ := Aside0.mk (below_step zat1 hb)
     clear HO_8
     clear HO_12
     clear HO_1222002
     clear BK1199
     clear BK1200
     clear BK1221
     clear HB
     have HO_8 := n0_
     have HO_12 := n1_
     have HO_1222002 := n2_
     have HO1254 := n3_
     have BK1199 := n4_
     have BK1200 := n5_
     have BK1221 := n6_
     have HB := n7_
     clear n0_ n1_ n2_ n3_ n4_ n5_ n6_ n7_
     (try clear hb)
     (try clear hb2)
     (try clear hk)
     (try clear hi)
     (try clear ho0)
     (try clear hna_)
     (try clear hnb_)
     refine hK.out _ _ ⟨(blk_cell BK1199.out 0).trans rfl, (blk_cell BK1199.out 1).trans rfl, (blk_cell BK1199.out 2).trans rfl, (blk_cell BK1200.out 0).trans rfl, (blk_cell BK1200.out 1).trans rfl⟩ (fun hHeld => ?_)
     clear hK K
     refine norm_ (a' := ?_) ?_ ?_
     rotate_left
     ·show Act.put _ (some 100) _ = _
      simp only [Act.put, List.setIfInBounds_toArray, List.set_cons_zero, List.set_cons_succ, i64_w, i32_w]
      rfl
     refine one_ (i := 3) (N := some 102) #[true, true, true, true, true, false, false, false, false, false, false, false] rfl rfl (one_of HT_.out (by kernel_rfl)) (by decide) (fun K hK => ?_)
     refine goes_ Try.func18 (by kernel_rfl) rfl #[.agg #[.int .i64 a1_0, .int .i64 a1_1]] (by rfl) rfl rfl zat3 ?_
     with_reducible refine (laws_toLeaper.calls a1_0 a1_1 t1255 t1256 _ A89.out).mono ?_
     rintro e w97 ⟨rfl, hb⟩
     refine ⟨_, rfl, ?_⟩
     have n0_ := Aside0.mk (Kd.R_below zat10 hb)
     have n1_ := Aside0.mk (Kd.R_below zat9 hb)
     have n2_ := Aside0.mk (Kd.R_below zat8 hb)
     have n3_ := Aside0.mk (Kd.R_below zat28 hb)
     have n4_ := Aside0.mk (blk_below (g := gb1199) (o := .cells #[.int .i64 a0_0, .int .i64 a0_1, .slice A0_2 l0_2.length c0_2] 24 (0, 0)) zat2 hb)
     have n5_ := Aside0.mk (blk_below (g := gb1200) (o := .cells #[.int .i64 a1_0, .int .i64 a1_1] 26 (0, 0)) zat4 hb)
     have n6_ := Aside0.mk (blk_below (g := gb1221) (o := .cells #[.int .i64 t1216, .int .i64 t1217, .slice Ao41 t1243.length co41] 30 (0, 0)) zat7 hb)
     have n7_ := Aside0.mk (below_step zat1 hb)
     clear HO_8
     clear HO_12
     clear HO_1222002
     clear HO1254
     clear BK1199
     clear BK1200
     clear BK1221
     clear HB
     have HO_8 := n0_
     have HO_12 := n1_
     have HO_1222002 := n2_
     have HO1254 := n3_
     have BK1199 := n4_
     have BK1200 := n5_
     have BK1221 := n6_
     have HB := n7_
     clear n0_ n1_ n2_ n3_ n4_ n5_ n6_ n7_
     (try clear hb)
     (try clear hb2)
     (try clear hk)
     (try clear hi)
     (try clear hna_)
     (try clear hnb_)
     refine hK.out _ _ ⟨(blk_cell BK1199.out 0).trans rfl, (blk_cell BK1199.out 1).trans rfl, (blk_cell BK1199.out 2).trans rfl, (blk_cell BK1200.out 0).trans rfl, (blk_cell BK1200.out 1).trans rfl⟩ (fun hHeld => ?_)
     clear hK K
     refine norm_ (a' := ?_) ?_ ?_
     rotate_left
     ·show Act.put _ (some 102) _ = _
      simp only [Act.put, List.setIfInBounds_toArray, List.set_cons_zero, List.set_cons_succ, i64_w, i32_w]
      rfl
     refine one_ (i := 5) (N := some 104) #[true, true, true, true, true, true, false, false, false, false, false, false] rfl rfl (one_of HT_.out (by kernel_rfl)) (by decide) (fun K hK => ?_)
     refine goes_ Try.func19 (by kernel_rfl) rfl #[.slice A2 l2.length c2] (by rfl) rfl rfl zat3 ?_
     with_reducible refine (laws_toIntS.calls kj61 _ _ l2 t1257 _ ?side1 ?side2 A90.out).mono ?_
     (case side1 => exact zat21)
     (case side2 => exact HC2.out)
     rintro e w98 ⟨v1258, rfl, ho0, hb⟩
     refine ⟨_, rfl, ?_⟩
     have n0_ := Aside0.mk (Kd.R_elder' zat10 (Kd.R_base ho0) hb)
     have n1_ := Aside0.mk (Kd.R_elder' zat9 (Kd.R_base ho0) hb)
     have n2_ := Aside0.mk (Kd.R_elder' zat8 (Kd.R_base ho0) hb)
     have n3_ := Aside0.mk (Kd.R_elder' zat28 (Kd.R_base ho0) hb)
     have n4_ := Aside0.mk (Kd.R_lower (Kd.R_new' (Kd.R_new' (Kd.R_new' (Kd.R_new' ho0 (Kd.R_lt zat10)) (Kd.R_lt zat9)) (Kd.R_lt zat8)) (Kd.R_lt zat28)) (below_size zat1))
     have n5_ := Aside0.mk (blk_below (g := gb1199) (o := .cells #[.int .i64 a0_0, .int .i64 a0_1, .slice A0_2 l0_2.length c0_2] 24 (0, 0)) zat2 hb)
     have n6_ := Aside0.mk (blk_below (g := gb1200) (o := .cells #[.int .i64 a1_0, .int .i64 a1_1] 26 (0, 0)) zat4 hb)
     have n7_ := Aside0.mk (blk_below (g := gb1221) (o := .cells #[.int .i64 t1216, .int .i64 t1217, .slice Ao41 t1243.length co41] 30 (0, 0)) zat7 hb)
     have n8_ := Aside0.mk (below_step zat1 hb)
     clear HO_8
     clear HO_12
     clear HO_1222002
     clear HO1254
     clear BK1199
     clear BK1200
     clear BK1221
     clear HB
     have HO_8 := n0_
     have HO_12 := n1_
     have HO_1222002 := n2_
     have HO1254 := n3_
     have HO1259 := n4_
     have BK1199 := n5_
     have BK1200 := n6_
     have BK1221 := n7_
     have HB := n8_
     clear n0_ n1_ n2_ n3_ n4_ n5_ n6_ n7_ n8_
     (try clear hb)
     (try clear hb2)
     (try clear hk)
     (try clear hi)
     (try clear ho0)
     (try clear hna_)
     (try clear hnb_)
     obtain ⟨Ao99, co99, eo99⟩ := Kd.R_slice HO1254.out
     (first | subst eo99 | (injection eo99 with f1_ f2_ f3_; have f4_ := f1_.symm; have f5_ := f3_.symm; clear f1_ f2_ f3_; subst f4_; subst f5_))
     obtain ⟨Ao100, co100, eo100⟩ := Kd.R_slice HO1259.out
     (first | subst eo100 | (injection eo100 with f1_ f2_ f3_; have f4_ := f1_.symm; have f5_ := f3_.symm; clear f1_ f2_ f3_; subst f4_; subst f5_))
     refine hK.out _ _ ⟨(blk_cell BK1199.out 0).trans rfl, (blk_cell BK1199.out 1).trans rfl, (blk_cell BK1199.out 2).trans rfl, (blk_cell BK1200.out 0).trans rfl, (blk_cell BK1200.out 1).trans rfl⟩ (fun hHeld => ?_)
     clear hK K
     refine norm_ (a' := ?_) ?_ ?_
     rotate_left
     ·show Act.put _ (some 104) _ = _
      simp only [Act.put, List.setIfInBounds_toArray, List.set_cons_zero, List.set_cons_succ, i64_w, i32_w]
      rfl
     refine one_ (i := 6) (N := some 105) #[true, true, true, true, true, true, true, false, false, false, false, false] rfl rfl (one_of HT_.out (by kernel_rfl)) (by decide) (fun K hK => ?_)
     refine goes_ Try.func45 (by kernel_rfl) rfl #[.agg #[.int .i64 t1250, .int .i64 t1251, .slice Ao99 t1252.length co99], .agg #[.int .i64 t1255, .int .i64 t1256], .slice Ao100 t1257.length co100] (by rfl) rfl rfl zat3 ?_
     with_reducible refine (impl_RowSumsOf.calls kj61 t1250 t1251 _ _ t1252 t1255 t1256 _ _ t1257 t1260 t1263 _ ?side1 ?side2 ?side3 ?side4 A91.out).mono ?_
     (case side1 => repeat (first | exact (Kd.R_reads' HO1254.out).2.2 | (with_reducible refine Kd.C_alloc ?_ _) | (with_reducible refine Kd.C_drewN ?_ _) | (with_reducible refine Kd.C_drew ?_)))
     (case side2 => exact (Kd.R_reads' HO1254.out).2.1)
     (case side3 => repeat (first | exact (Kd.R_reads' HO1259.out).2.2 | (with_reducible refine Kd.C_alloc ?_ _) | (with_reducible refine Kd.C_drewN ?_ _) | (with_reducible refine Kd.C_drew ?_)))
     (case side4 => exact (Kd.R_reads' HO1259.out).2.1)
     rintro e w101 ⟨v1261, rfl, ho0, hb⟩
     refine ⟨_, rfl, ?_⟩
     have n0_ := Aside0.mk (Kd.R_elder' zat10 (Kd.R_base ho0) hb)
     have n1_ := Aside0.mk (Kd.R_elder' zat9 (Kd.R_base ho0) hb)
     have n2_ := Aside0.mk (Kd.R_elder' zat8 (Kd.R_base ho0) hb)
     have n3_ := Aside0.mk (Kd.R_elder' zat28 (Kd.R_base ho0) hb)
     have n4_ := Aside0.mk (Kd.R_elder' (by (with_reducible repeat (first | apply Kd.R_alloc | apply Kd.R_drewN | apply Kd.R_drew)); exact HO1259.out) (Kd.R_base ho0) hb)
     have n5_ := Aside0.mk (Kd.R_lower (Kd.R_new' (Kd.R_new' (Kd.R_new' (Kd.R_new' (Kd.R_new' ho0 (Kd.R_lt zat10)) (Kd.R_lt zat9)) (Kd.R_lt zat8)) (Kd.R_lt zat28)) (Kd.R_lt (by (with_reducible repeat (first | apply Kd.R_alloc | apply Kd.R_drewN | apply Kd.R_drew)); exact HO1259.out))) (below_size zat1))
     have n6_ := Aside0.mk (blk_below (g := gb1199) (o := .cells #[.int .i64 a0_0, .int .i64 a0_1, .slice A0_2 l0_2.length c0_2] 24 (0, 0)) zat2 hb)
     have n7_ := Aside0.mk (blk_below (g := gb1200) (o := .cells #[.int .i64 a1_0, .int .i64 a1_1] 26 (0, 0)) zat4 hb)
     have n8_ := Aside0.mk (blk_below (g := gb1221) (o := .cells #[.int .i64 t1216, .int .i64 t1217, .slice Ao41 t1243.length co41] 30 (0, 0)) zat7 hb)
     have n9_ := Aside0.mk (below_step zat1 hb)
     clear HO_8
     clear HO_12
     clear HO_1222002
     clear HO1254
     clear HO1259
     clear BK1199
     clear BK1200
     clear BK1221
     clear HB
     have HO_8 := n0_
     have HO_12 := n1_
     have HO_1222002 := n2_
     have HO1254 := n3_
     have HO1259 := n4_
     have HO1262 := n5_
     have BK1199 := n6_
     have BK1200 := n7_
     have BK1221 := n8_
     have HB := n9_
     clear n0_ n1_ n2_ n3_ n4_ n5_ n6_ n7_ n8_ n9_
     (try clear hb)
     (try clear hb2)
     (try clear hk)
     (try clear hi)
     (try clear ho0)
     (try clear hna_)
     (try clear hnb_)
     refine hK.out _ _ ⟨(blk_cell BK1199.out 0).trans rfl, (blk_cell BK1199.out 1).trans rfl, (blk_cell BK1199.out 2).trans rfl, (blk_cell BK1200.out 0).trans rfl, (blk_cell BK1200.out 1).trans rfl⟩ (fun hHeld => ?_)
     clear hK K
     refine norm_ (a' := ?_) ?_ ?_
     rotate_left
     ·show Act.put _ (some 105) _ = _
      simp only [Act.put, List.setIfInBounds_toArray, List.set_cons_zero, List.set_cons_succ, i64_w, i32_w]
      rfl
     refine pure_ (i := 7) (N := some 98) (v := ?_) (a' := ?_) #[true, true, true, true, true, true, true, true, false, false, false, false] rfl rfl (any_of HT_.out (by kernel_rfl)) (fun _ _ _ h => h) (Or.inl ⟨by rfl, ?_⟩) ?_ ?_
     rotate_left
     ·intro w'
      go_simp
      with_reducible rfl
     rotate_left
     ·simp only [Act.put, List.setIfInBounds_toArray, List.set_cons_zero, List.set_cons_succ, i64_w, i32_w]
      rfl
     refine pure_ (i := 8) (N := some 106) (v := ?_) (a' := ?_) #[true, true, true, true, true, true, true, true, true, false, false, false] rfl rfl (any_of HT_.out (by kernel_rfl)) (fun _ _ _ h => h) (Or.inl ⟨by rfl, ?_⟩) ?_ ?_
     rotate_left
     ·intro w'
      go_simp
      with_reducible rfl
     rotate_left
     ·simp only [Act.put, List.setIfInBounds_toArray, List.set_cons_zero, List.set_cons_succ, i64_w, i32_w]
      rfl
     refine pure_ (i := 9) (N := some 107) (v := ?_) (a' := ?_) #[true, true, true, true, true, true, true, true, true, true, false, false] rfl rfl (any_of HT_.out (by kernel_rfl)) (fun _ _ _ h => h) (Or.inl ⟨by rfl, ?_⟩) ?_ ?_
     rotate_left
     ·intro w'
      go_simp
      with_reducible rfl
     rotate_left
     ·simp only [Act.put, List.setIfInBounds_toArray, List.set_cons_zero, List.set_cons_succ, i64_w, i32_w]
      rfl
     refine pure_ (i := 10) (N := some 17) (v := ?_) (a' := ?_) #[true, true, true, true, true, true, true, true, true, true, true, false] rfl rfl (any_of HT_.out (by kernel_rfl)) (fun _ _ _ h => h) (Or.inl ⟨by rfl, ?_⟩) ?_ ?_
     rotate_left
     ·intro w'
      go_simp
      with_reducible rfl
     rotate_left
     ·simp only [Act.put, List.setIfInBounds_toArray, List.set_cons_zero, List.set_cons_succ, i64_w, i32_w]
      rfl
     refine pure_ (i := 11) (N := some 18) (v := ?_) (a' := ?_) #[true, true, true, true, true, true, true, true, true, true, true, true] rfl rfl (any_of HT_.out (by kernel_rfl)) (fun _ _ _ h => h) (Or.inl ⟨by rfl, ?_⟩) ?_ ?_
     rotate_left
     ·intro w'
      go_simp
      with_reducible rfl
     rotate_left
     ·simp only [Act.put, List.setIfInBounds_toArray, List.set_cons_zero, List.set_cons_succ, i64_w, i32_w]
      rfl
     refine done_ (done_of HT_.out (by kernel_rfl)) ?_
     go_upto_region 31 with (fail)
     go_cut [116] (fun v116 wc => ∃ (kq : Nat) (x116_91 : Bool), v116 = .bool x116_91 ∧ Aside0 (laws_FnExactRowSumsOf.j2 kq t1248 t1247 x116_91 = some r) ∧ Aside0 (kq ≤ kj61) ∧ Aside0 (Kd.R (Kd.int .i64) 3 wc w.heap.size (fun k_ => some k_ ≠ ((.slice Ao41 t1243.length co41) : Value).ownBlock) (.slice Ao93 t1227.length co93) t1248) ∧ Aside0 (Kd.R (Kd.int .i64) 3 wc w.heap.size (fun k_ => some k_ ≠ ((.slice Ao93 t1227.length co93) : Value).ownBlock) (.slice Ao41 t1243.length co41) t1243) ∧ Aside0 (wc.heap[gb1199]? = some (.cells #[.int .i64 a0_0, .int .i64 a0_1, (.slice A0_2 l0_2.length c0_2)] 24 (0, 0))) ∧ Aside0 (wc.heap[gb1200]? = some (.cells #[.int .i64 a1_0, .int .i64 a1_1] 26 (0, 0))) ∧ Aside0 (wc.heap[gb1221]? = some (.cells #[.int .i64 t1216, .int .i64 t1217, (.slice Ao41 t1243.length co41)] 30 (0, 0))) ∧ Aside0 (Below w.heap.size w wc))
     case first =>
      have H := HC92.out
      clear HC92
      replace H := Option.bind_eq_some_iff.mp H
      obtain ⟨t1264, A1020, H⟩ := H
      replace H : (if t1264 = true then (laws_FnExactRowSumsOf.j2 kj61 t1248 t1247 (t1263 != t1215)) else (laws_FnExactRowSumsOf.j2 kj61 t1248 t1247 true)) = some r := H
      have A102 := Aside0.mk A1020
      clear A1020
      by_cases c103 : t1264 = true
      ·subst c103
       have H1 : (laws_FnExactRowSumsOf.j2 kj61 t1248 t1247 (t1263 != t1215)) = some r := by rw [if_pos rfl] at H; exact H
       clear H
       have H := H1
       clear H1
       have H' := Aside0.mk H
       clear H
       obtain ⟨Ao104, co104, eo104⟩ := Kd.R_slice HO1262.out
       subst eo104
       obtain ⟨Ao105, co105, eo105⟩ := Kd.R_slice HO_8.out
       subst eo105
       go_wp2_with (first | ((with_reducible refine gate_callee (f := 22) rfl ?_); refine goesL_ (some 110) rfl rfl Try.func22 (by kernel_rfl) rfl #[.slice Ao104 t1260.length co104, .slice Ao105 t1212.length co105] rfl zat3 ?_; (with_reducible refine (laws_eqIntS.calls kj61 _ _ t1260 _ _ t1212 true _ ?side1 ?side2 ?side3 ?side4 A102.out).mono ?_); (case side1 => exact zat44); (case side2 => exact (Kd.R_reads' HO1262.out).2.1); (case side3 => exact zat22); (case side4 => exact (Kd.R_reads' HO_8.out).2.1); rintro e w' ⟨rfl, ⟨nd, rfl⟩⟩; refine ⟨_, rfl, ?_⟩))
       go_meet
       case rel => exact ⟨_, ((t1263 != t1215)), zat35, H', ⟨by have := HJ21.out; have := HJ61.out; first | omega | exact Nat.le_refl _⟩, ⟨zat39⟩, ⟨zat38⟩, ⟨zat51⟩, ⟨zat50⟩, ⟨zat49⟩, ⟨zat1⟩⟩
      replace c103 := Bool.eq_false_iff.mpr c103
      subst c103
      have H1 : (laws_FnExactRowSumsOf.j2 kj61 t1248 t1247 true) = some r := by rw [if_neg (show ¬ (false = true) by decide)] at H; exact H
      clear H
      have H := H1
      clear H1
      have H' := Aside0.mk H
      clear H
      obtain ⟨Ao106, co106, eo106⟩ := Kd.R_slice HO1262.out
      subst eo106
      obtain ⟨Ao107, co107, eo107⟩ := Kd.R_slice HO_8.out
      subst eo107
      go_wp2_with (first | ((with_reducible refine gate_callee (f := 22) rfl ?_); refine goesL_ (some 110) rfl rfl Try.func22 (by kernel_rfl) rfl #[.slice Ao106 t1260.length co106, .slice Ao107 t1212.length co107] rfl zat3 ?_; (with_reducible refine (laws_eqIntS.calls kj61 _ _ t1260 _ _ t1212 false _ ?side1 ?side2 ?side3 ?side4 A102.out).mono ?_); (case side1 => exact zat44); (case side2 => exact (Kd.R_reads' HO1262.out).2.1); (case side3 => exact zat22); (case side4 => exact (Kd.R_reads' HO_8.out).2.1); rintro e w' ⟨rfl, ⟨nd, rfl⟩⟩; refine ⟨_, rfl, ?_⟩))
      go_meet
      case rel => exact ⟨_, (true), zat35, H', ⟨by have := HJ21.out; have := HJ61.out; first | omega | exact Nat.le_refl _⟩, ⟨zat39⟩, ⟨zat38⟩, ⟨zat51⟩, ⟨zat50⟩, ⟨zat49⟩, ⟨zat1⟩⟩
     case rest =>
      clear HC92
      try clear c1; try clear c2; try clear p2; try clear c3; try clear c4; try clear c4b0; try clear c4b1; try clear c5; try clear c6; try clear c7; try clear c8; try clear c8b0; try clear c10; try clear c11; try clear c13; try clear c15; try clear c17; try clear c18; try clear c19; try clear c21; try clear c22; try clear c25; try clear c31; try clear c32; try clear c33; try clear c38; try clear c39; try clear c44; try clear c45; try clear c48; try clear c53; try clear c56; try clear c59; try clear c69; try clear c70; try clear c74; try clear c74b0; try clear c76; try clear c81; try clear c84; try clear c84b0
      try clear c87; try clear c87b0; try clear c87b1; try clear c103; try clear hcz12_0; try clear hcz12_1; try clear hcz12_2; try clear hcz26_0; try clear hcz26_1; try clear hcz26_2; try clear hcz35_0; try clear hcz35_1; try clear hcz35_2; try clear hcz40_0; try clear hcz40_1; try clear hcz40_2; try clear hcz71_0; try clear hcz71_1; try clear hcz71_2; try clear hfz12_0; try clear hfz12_1; try clear hfz12_2; try clear hfz26_0; try clear hfz26_1; try clear hfz26_2; try clear hfz35_0; try clear hfz35_1; try clear hfz35_2; try clear hfz40_0; try clear hfz40_1; try clear hfz40_2; try clear hfz71_0; try clear hfz71_1
      try clear hfz71_2; try clear p2
      obtain ⟨kq, x116_91, rfl, HA, HJ91, HO_12, HO_1222002, BK1199, BK1200, BK1221, HB⟩ := hcut
      have hl12_91 := (Kd.R_reads' HO_12.out).1
      rw [hl12_91] at HO_12
      (try simp only [hl12_91])
      (try simp only [hl12_91] at BK1199)
      (try simp only [hl12_91] at BK1200)
      (try simp only [hl12_91] at BK1221)
      (try simp only [hl12_91] at HO_1222002)
      cases kq with
      | zero => exact absurd HA.out (by simp [laws_FnExactRowSumsOf.j2])
      | succ kj91 =>
       have H := HA.out
       clear HA
       simp only [laws_FnExactRowSumsOf.j2] at H
       by_cases c108 : x116_91 = true
       ·subst c108
        have H1 : (some false) = some r := by rw [if_pos rfl] at H; exact H
        clear H
        have H := H1
        clear H1
        obtain rfl := Option.some.inj H
        go_wp2
        go_ret
        exact ⟨zat17, zat1⟩
       replace c108 := Bool.eq_false_iff.mpr c108
       subst c108
       have H1 : ((laws_heldIntS.f kj91 t1248 1).bind fun t1265 => (if t1265 < 0 then (some false) else (if t1265 = t1247 then (some true) else (some false)))) = some r := by rw [if_neg (show ¬ (false = true) by decide)] at H; exact H
       clear H
       have H := H1
       clear H1
       replace H := Option.bind_eq_some_iff.mp H
       obtain ⟨t1265, A1090, H⟩ := H
       replace H : (if t1265 < 0 then (some false) else (if t1265 = t1247 then (some true) else (some false))) = some r := H
       have A109 := Aside0.mk A1090
       clear A1090
       by_cases c110 : t1265 < 0
       ·rw [if_pos c110] at H
        have c110b0 : decide (t1265 < 0) = true := decide_eq_true c110
        clear c110
        obtain rfl := Option.some.inj H
        go_wp2_with (first | ((with_reducible refine gate_callee (f := 33) rfl ?_); refine goesL_ (some 119) rfl rfl Try.func33 (by kernel_rfl) rfl #[.slice Ao93 t1248.length co93, .int .i64 1] rfl zat3 ?_; (with_reducible refine (laws_heldIntS.calls kj91 _ _ t1248 1 t1265 _ ?side1 ?side2 A109.out).mono ?_); (case side1 => exact zat14); (case side2 => exact (Kd.R_reads' HO_12.out).2.1); rintro e w' ⟨rfl, ⟨nd, rfl⟩⟩; refine ⟨_, rfl, ?_⟩))
        go_ret
        exact ⟨zat17, zat1⟩
       rw [if_neg c110] at H
       have c110b0 : decide (t1265 < 0) = false := decide_eq_false c110
       clear c110
       by_cases c111 : t1265 = t1247
       rotate_left
       ·rw [if_neg c111] at H
        have c111b0 : (t1265 == t1247) = false := beq_eq_false_iff_ne.mpr c111
        have c111b1 : (t1265 != t1247) = true := bne_iff_ne.mpr c111
        obtain rfl := Option.some.inj H
        go_wp2_with (first | ((with_reducible refine gate_callee (f := 33) rfl ?_); refine goesL_ (some 119) rfl rfl Try.func33 (by kernel_rfl) rfl #[.slice Ao93 t1248.length co93, .int .i64 1] rfl zat3 ?_; (with_reducible refine (laws_heldIntS.calls kj91 _ _ t1248 1 t1265 _ ?side1 ?side2 A109.out).mono ?_); (case side1 => exact zat14); (case side2 => exact (Kd.R_reads' HO_12.out).2.1); rintro e w' ⟨rfl, ⟨nd, rfl⟩⟩; refine ⟨_, rfl, ?_⟩))
        go_ret
        exact ⟨zat17, zat1⟩
       rw [if_pos c111] at H
       have c111b0 : (t1265 == t1247) = true := beq_iff_eq.mpr c111
       have c111b1 : (t1265 != t1247) = false := bne_eq_false_iff_eq.mpr c111
       clear c111
       obtain rfl := Option.some.inj H
       go_wp2_with (first | ((with_reducible refine gate_callee (f := 33) rfl ?_); refine goesL_ (some 119) rfl rfl Try.func33 (by kernel_rfl) rfl #[.slice Ao93 t1248.length co93, .int .i64 1] rfl zat3 ?_; (with_reducible refine (laws_heldIntS.calls kj91 _ _ t1248 1 t1265 _ ?side1 ?side2 A109.out).mono ?_); (case side1 => exact zat14); (case side2 => exact (Kd.R_reads' HO_12.out).2.1); rintro e w' ⟨rfl, ⟨nd, rfl⟩⟩; refine ⟨_, rfl, ?_⟩))
       go_ret
       exact ⟨zat17, zat1⟩

end Go.Proofs.Ythoklbeenjppbaa.Q

/- Written by a program of this session: functions of the translation as plain Lean functions, each with a proof that the call does what the plain function says; the conditions stand in each theorem. -/
import Derived.Test.YthoklbeenjppbaaQ0
import Derived.Test.YthoklbeenjppbaaQ1
import Derived.Test.YthoklbeenjppbaaQ2
import Derived.Test.YthoklbeenjppbaaQ5
import Derived.Test.YthoklbeenjppbaaQ31
import Derived.Test.YthoklbeenjppbaaQ36
namespace Go.Proofs.Ythoklbeenjppbaa.Q
open Go.RowKit Go.Proofs.YthoklbeenjppbaaW.PrintWords Go.Proofs.YthoklbeenjppbaaW.PrintLast Go.Proofs.YthoklbeenjppbaaW.PrintMore
attribute [local go_sem] max2_int min2_int max_two min_two max_three min_three max_four min_four   -- for this text's walks alone
set_option linter.unusedVariables false
set_option linter.unusedSimpArgs false

theorem zal1 {p : Prop} (h : p := by repeat (first | (with_reducible first | exact HB.out | apply below_alloc | apply pw_below_drewN | apply below_drew1 | refine below_set ?_ GE888.out | refine below_set ?_ GE889.out | refine below_set ?_ GE910.out) | exact HB.out)) : p := h
theorem zal2 {p : Prop} (h : p := by (with_reducible repeat (first | refine blk_drewN ?_ _ | refine blk_drew ?_ | refine blk_alloc ?_ _)); exact BK888.out) : p := h
theorem zal3 {p : Prop} (h : p := by (try simp only [List.map_toArray, List.map_cons, List.map_nil]); first | done | rfl | (simp only [List.length_drop, List.length_take]; rfl)) : p := h
theorem zal4 {p : Prop} (h : p := by (with_reducible repeat (first | refine blk_drewN ?_ _ | refine blk_drew ?_ | refine blk_alloc ?_ _)); exact BK889.out) : p := h
theorem zal6 {p : Prop} (h : p := by repeat (first | (with_reducible first | exact HB.out | apply below_alloc | apply pw_below_drewN | apply below_drew1 | refine below_set ?_ GE888.out | refine below_set ?_ GE889.out) | exact HB.out)) : p := h
theorem zal7 {p : Prop} (h : p := by (with_reducible repeat (first | refine blk_drewN ?_ _ | refine blk_drew ?_ | refine blk_alloc ?_ _)); exact BK910.out) : p := h
theorem zal8 {p : Prop} (h : p := by (with_reducible repeat (first | apply Kd.R_alloc | apply Kd.R_drewN | apply Kd.R_drew)); exact HO_911002.out) : p := h
theorem zal9 {p : Prop} (h : p := by (with_reducible repeat (first | apply Kd.R_alloc | apply Kd.R_drewN | apply Kd.R_drew)); exact HO_12.out) : p := h
theorem zal10 {p : Prop} (h : p := by (with_reducible repeat (first | apply Kd.R_alloc | apply Kd.R_drewN | apply Kd.R_drew)); exact HO_8.out) : p := h
theorem zal11 {p : Prop} (h : p := by repeat (first | (with_reducible first | exact HB.out | apply below_alloc | apply pw_below_drewN | apply below_drew1 | refine below_set ?_ GE888.out) | exact HB.out)) : p := h
theorem zal12 {p : Prop} (h : p := by (with_reducible repeat (first | apply Kd.R_alloc | apply Kd.R_drewN | apply Kd.R_drew)); exact HO_11.out) : p := h
theorem zal13 {p : Prop} (h : p := by repeat (first | exact (Kd.C_below HR0_2.out HB.out) | (with_reducible refine Kd.C_alloc ?_ _) | (with_reducible refine Kd.C_drewN ?_ _) | (with_reducible refine Kd.C_drew ?_))) : p := h
theorem zal14 {p : Prop} (h : p := by repeat (first | exact (Kd.R_reads' HO_12.out).2.2 | (with_reducible refine Kd.C_alloc ?_ _) | (with_reducible refine Kd.C_drewN ?_ _) | (with_reducible refine Kd.C_drew ?_))) : p := h
theorem zal15 {p : Prop} (h : p := by repeat (first | (with_reducible first | exact HB.out | apply below_alloc | apply pw_below_drewN | apply below_drew1) | exact HB.out)) : p := h
theorem zal16 {p : Prop} (h : p := by (with_reducible repeat (first | apply Kd.R_alloc | apply Kd.R_drewN | apply Kd.R_drew)); exact HO895.out) : p := h
theorem zal17 {p : Prop} (h : p := by first | rfl | (simp [errW_none, errW_some] <;> rfl) | (simp [*, errW_none, errW_some] <;> rfl)) : p := h
theorem zal18 {p : Prop} (h : p := by (with_reducible repeat (first | apply Kd.R_alloc | apply Kd.R_drewN | apply Kd.R_drew)); exact HO900.out) : p := h
theorem zal19 {p : Prop} (h : p := by (with_reducible repeat (first | apply Kd.R_alloc | apply Kd.R_drewN | apply Kd.R_drew)); exact HO925.out) : p := h
theorem zal20 {p : Prop} (h : p := by (with_reducible repeat (first | apply Kd.R_alloc | apply Kd.R_drewN | apply Kd.R_drew)); exact HO903.out) : p := h
theorem zal21 {p : Prop} (h : p := by repeat (first | exact (Kd.C_below HR2.out HB.out) | (with_reducible refine Kd.C_alloc ?_ _) | (with_reducible refine Kd.C_drewN ?_ _) | (with_reducible refine Kd.C_drew ?_))) : p := h
theorem zal22 {p : Prop} (h : p := by repeat (first | exact (Kd.R_reads' HO_8.out).2.2 | (with_reducible refine Kd.C_alloc ?_ _) | (with_reducible refine Kd.C_drewN ?_ _) | (with_reducible refine Kd.C_drew ?_))) : p := h
theorem zal23 {p : Prop} (h : p := by (try simp only [List.map_toArray, List.map_cons, List.map_nil]); first | done | (rw [show t937.length = t916.length from (Kd.R_reads' HO_12.out).1.symm] <;> rfl) | rfl | (simp only [List.length_drop, List.length_take]; rfl)) : p := h
theorem zal24 {p : Prop} (h : p := by (with_reducible repeat (first | apply Kd.R_alloc | apply Kd.R_drewN | apply Kd.R_drew)); exact (Kd.R_mono (Kd.R_far (p := ⟨gb910, 2, none⟩) (Kd.R_far (p := ⟨gb910, 1, none⟩) (Kd.R_far (p := ⟨gb910, 0, none⟩) (Kd.R_types HO909.out BK910.out (by decide)) (fun _ hk => hk.2) (.int .i64 t905)) (fun _ hk => hk.2) (.int .i64 t906)) (fun _ hk => hk.2) (.slice Ao41 t907.length co41)) (fun _ h_ => h_.1))) : p := h
theorem zal25 {p : Prop} (h : p := by (with_reducible repeat (first | apply Kd.R_alloc | apply Kd.R_drewN | apply Kd.R_drew)); exact (Kd.R_mono (Kd.R_far (p := ⟨gb910, 2, none⟩) (Kd.R_far (p := ⟨gb910, 1, none⟩) (Kd.R_far (p := ⟨gb910, 0, none⟩) (Kd.R_types HO903.out BK910.out (by decide)) (fun _ hk => hk.2) (.int .i64 t905)) (fun _ hk => hk.2) (.int .i64 t906)) (fun _ hk => hk.2) (.slice Ao41 t907.length co41)) (fun _ h_ => h_.1))) : p := h
theorem zal26 {p : Prop} (h : p := by (with_reducible repeat (first | apply Kd.R_alloc | apply Kd.R_drewN | apply Kd.R_drew)); exact (Kd.R_mono (Kd.R_far (p := ⟨gb910, 2, none⟩) (Kd.R_far (p := ⟨gb910, 1, none⟩) (Kd.R_far (p := ⟨gb910, 0, none⟩) (Kd.R_types HO900.out BK910.out (by decide)) (fun _ hk => hk.2) (.int .i64 t905)) (fun _ hk => hk.2) (.int .i64 t906)) (fun _ hk => hk.2) (.slice Ao41 t907.length co41)) (fun _ h_ => h_.1))) : p := h
theorem zal27 {p : Prop} (h : p := by (with_reducible repeat (first | apply Kd.R_alloc | apply Kd.R_drewN | apply Kd.R_drew)); exact (Kd.R_mono (Kd.R_far (p := ⟨gb910, 2, none⟩) (Kd.R_far (p := ⟨gb910, 1, none⟩) (Kd.R_far (p := ⟨gb910, 0, none⟩) (Kd.R_types HO895.out BK910.out (by decide)) (fun _ hk => hk.2) (.int .i64 t905)) (fun _ hk => hk.2) (.int .i64 t906)) (fun _ hk => hk.2) (.slice Ao41 t907.length co41)) (fun _ h_ => h_.1))) : p := h
theorem zal28 {p : Prop} (h : p := by (with_reducible repeat (first | apply Kd.R_alloc | apply Kd.R_drewN | apply Kd.R_drew)); exact HO943.out) : p := h
theorem zal29 {p : Prop} (h : p := by repeat (first | exact (Kd.R_reads' HO_911002.out).2.2 | (with_reducible refine Kd.C_alloc ?_ _) | (with_reducible refine Kd.C_drewN ?_ _) | (with_reducible refine Kd.C_drew ?_))) : p := h
theorem zal30 {p : Prop} (h : p := by repeat (first | exact (Kd.R_reads' HO925.out).2.2 | (with_reducible refine Kd.C_alloc ?_ _) | (with_reducible refine Kd.C_drewN ?_ _) | (with_reducible refine Kd.C_drew ?_))) : p := h
theorem zal31 {p : Prop} (h : p := by (with_reducible repeat (first | apply Kd.R_alloc | apply Kd.R_drewN | apply Kd.R_drew)); exact HO909.out) : p := h
theorem zal32 {p : Prop} (h : p := by (with_reducible repeat (first | apply Kd.R_alloc | apply Kd.R_drewN | apply Kd.R_drew)); exact Kd.R_mono HO_911002.out (fun _ hk => ⟨hk.1, hk.2.2.1⟩)) : p := h
theorem zal33 {p : Prop} (h : p := by (with_reducible repeat (first | apply Kd.R_alloc | apply Kd.R_drewN | apply Kd.R_drew)); exact Kd.R_mono HO_8.out (fun _ hk => ⟨hk.2.1, hk.2.2.1⟩)) : p := h
theorem zal34 {p : Prop} (h : p := by (with_reducible repeat (first | apply Kd.R_alloc | apply Kd.R_drewN | apply Kd.R_drew)); exact Kd.R_mono HO_12.out (fun _ hk => ⟨hk.1, hk.2.2.1⟩)) : p := h
theorem zal35 {p : Prop} (h : p := by first | rfl | (simp; done) | (simp [*]; done)) : p := h
theorem zal36 {p : Prop} (h : p := by (with_reducible repeat (first | apply Kd.R_alloc | apply Kd.R_drewN | apply Kd.R_drew)); exact HO913.out) : p := h
theorem zal37 {p : Prop} (h : p := by rw [show t937.length = t916.length from (Kd.R_reads' HO_12.out).1.symm]; exact (Kd.R_reads' HO_12.out).2.1) : p := h
theorem zal38 {p : Prop} (h : p := by (try simp only [hl911002_61]); (with_reducible repeat (first | apply Kd.R_alloc | apply Kd.R_drewN | apply Kd.R_drew)); exact Kd.R_mono HO_911002.out (fun _ hk => hk.1.1.1.2)) : p := h
theorem zal39 {p : Prop} (h : p := by (try simp only [hl911002_61]); (with_reducible repeat (first | apply Kd.R_alloc | apply Kd.R_drewN | apply Kd.R_drew)); exact Kd.R_mono HO_12.out (fun _ hk => hk.1.1.1.2)) : p := h
theorem zal40 {p : Prop} (h : p := by (with_reducible repeat (first | apply Kd.R_alloc | apply Kd.R_drewN | apply Kd.R_drew)); exact Kd.R_mono HO918.out (fun _ hk => ⟨hk.1.1.2, ⟨hk.2, hk.1.2⟩⟩)) : p := h
theorem zal41 {p : Prop} (h : p := by (with_reducible repeat (first | apply Kd.R_alloc | apply Kd.R_drewN | apply Kd.R_drew)); exact Kd.R_mono HO913.out (fun _ hk => ⟨hk.1.1.2, ⟨hk.2, hk.1.2⟩⟩)) : p := h
theorem zal42 {p : Prop} (h : p := by (with_reducible repeat (first | apply Kd.R_alloc | apply Kd.R_drewN | apply Kd.R_drew)); exact Kd.R_mono HO909.out (fun _ hk => ⟨hk.1.1.2, ⟨hk.1.2, hk.2⟩⟩)) : p := h
theorem zal43 {p : Prop} (h : p := by (with_reducible repeat (first | apply Kd.R_alloc | apply Kd.R_drewN | apply Kd.R_drew)); exact Kd.R_mono HO903.out (fun _ hk => ⟨hk.1.2, ⟨hk.2, hk.1.1.2⟩⟩)) : p := h
theorem zal44 {p : Prop} (h : p := by repeat (first | exact (Kd.R_reads' HO_11.out).2.2 | (with_reducible refine Kd.C_alloc ?_ _) | (with_reducible refine Kd.C_drewN ?_ _) | (with_reducible refine Kd.C_drew ?_))) : p := h
theorem zal45 {p : Prop} (h : p := by repeat (first | exact (Kd.R_reads' HO951.out).2.2 | (with_reducible refine Kd.C_alloc ?_ _) | (with_reducible refine Kd.C_drewN ?_ _) | (with_reducible refine Kd.C_drew ?_))) : p := h
theorem zal46 {p : Prop} (h : p := by repeat (first | exact (Kd.R_reads' HO929.out).2.2 | (with_reducible refine Kd.C_alloc ?_ _) | (with_reducible refine Kd.C_drewN ?_ _) | (with_reducible refine Kd.C_drew ?_))) : p := h
theorem zal47 {p : Prop} (h : p := by repeat (first | exact (Kd.R_reads' HO918.out).2.2 | (with_reducible refine Kd.C_alloc ?_ _) | (with_reducible refine Kd.C_drewN ?_ _) | (with_reducible refine Kd.C_drew ?_))) : p := h
theorem zal48 {p : Prop} (h : p := by repeat (first | exact (Kd.R_reads' HO903.out).2.2 | (with_reducible refine Kd.C_alloc ?_ _) | (with_reducible refine Kd.C_drewN ?_ _) | (with_reducible refine Kd.C_drew ?_))) : p := h
theorem zal49 {p : Prop} (h : p := by (try simp only [hl911002_61]); (with_reducible repeat (first | refine blk_drewN ?_ _ | refine blk_drew ?_ | refine blk_alloc ?_ _)); exact BK910.out) : p := h
theorem zal50 {p : Prop} (h : p := by (try simp only [hl911002_61]); (with_reducible repeat (first | refine blk_drewN ?_ _ | refine blk_drew ?_ | refine blk_alloc ?_ _)); exact BK889.out) : p := h
theorem zal51 {p : Prop} (h : p := by (try simp only [hl911002_61]); (with_reducible repeat (first | refine blk_drewN ?_ _ | refine blk_drew ?_ | refine blk_alloc ?_ _)); exact BK888.out) : p := h
theorem zal52 {p : Prop} (h : p := by rw [hg]; exact Nat.ne_of_lt (blk_lt (g := gb888) (o := .cells #[.int .i64 a0_0, .int .i64 a0_1, .slice A0_2 l0_2.length c0_2] 24 (0, 0)) zal2)) : p := h
theorem zal53 {p : Prop} (h : p := by rw [hg]; exact Nat.ne_of_gt (blk_lt (g := gb888) (o := .cells #[.int .i64 a0_0, .int .i64 a0_1, .slice A0_2 l0_2.length c0_2] 24 (0, 0)) zal2)) : p := h
theorem zal54 {p : Prop} (h : p := by rw [hg]; exact (below_size zal15)) : p := h
theorem zal55 {p : Prop} (h : p := by rw [hg]; exact (below_size zal11)) : p := h
/-! ### laws_FnExactGuardedBy: function 10 -/
mutual
def laws_FnExactGuardedBy.j0 : Nat → List Int → List Int → Bool → List Int → List Int → Bool → Bool → Int → Int → List Int → Int → Int → Int → Int → List Int → Option (Bool)
 | 0, _, _, _, _, _, _, _, _, _, _, _, _, _, _, _ => none
 | k + 1, x2, x8, x9, x11, x12, x13, x57, x889000, x889001, x889002, x890000, x890001, x911000, x911001, x911002 => if x57 = true then (some false) else ((laws_toBoard.f k x889000 x889001 x889002).bind fun bt921 => ((laws_eqBoard.f k x911000 x911001 x911002 bt921.1 bt921.2.1 bt921.2.2).bind fun t926 => (if t926 = true then ((laws_toIntS.f k x2).bind fun t927 => ((laws_eqIntS.f k x11 t927).bind fun t930 => (if t930 = true then ((laws_markBoard.f k x911000 x911001 x911002 1).bind fun bt931 => ((laws_markIntS.f k x11 bt931.1).bind fun bt933 => (if bt933.1 < 0 then (laws_FnExactGuardedBy.j1 k x2 x8 x9 x12 true x889000 x889001 x889002 x890000 x890001) else ((laws_eqIntS.f k x12 x8).bind fun t935 => (if t935 = true then (laws_FnExactGuardedBy.j1 k x2 x8 x9 x12 (x13 != x9) x889000 x889001 x889002 x890000 x890001) else (laws_FnExactGuardedBy.j1 k x2 x8 x9 x12 true x889000 x889001 x889002 x890000 x890001)))))) else (some false)))) else (some false))))
def laws_FnExactGuardedBy.j1 : Nat → List Int → List Int → Bool → List Int → Bool → Int → Int → List Int → Int → Int → Option (Bool)
 | 0, _, _, _, _, _, _, _, _, _, _ => none
 | k + 1, x2, x8, x9, x12, x86, x889000, x889001, x889002, x890000, x890001 => if x86 = true then (some false) else ((laws_markIntS.f k x12 1).bind fun bt936 => ((laws_heldIntS.f k bt936.2 1).bind fun t938 => (if t938 < 0 then (some false) else (if t938 = bt936.1 then ((laws_toBoard.f k x889000 x889001 x889002).bind fun bt939 => ((laws_toLeaper.f x890000 x890001).bind fun bt944 => ((laws_toIntS.f k x2).bind fun t946 => ((impl_GuardedBy.f k bt939.1 bt939.2.1 bt939.2.2 bt944.1 bt944.2 t946).bind fun bt949 => ((laws_eqIntS.f k bt949.1 x8).bind fun t953 => (if t953 = true then (laws_FnExactGuardedBy.j2 k bt936.2 bt936.1 (bt949.2 != x9)) else (laws_FnExactGuardedBy.j2 k bt936.2 bt936.1 true))))))) else (some false)))))
def laws_FnExactGuardedBy.j2 : Nat → List Int → Int → Bool → Option (Bool)
 | 0, _, _, _ => none
 | k + 1, x12, x15, x116 => if x116 = true then (some false) else ((laws_heldIntS.f k x12 1).bind fun t954 => (if t954 < 0 then (some false) else (if t954 = x15 then (some true) else (some false))))
end
def laws_FnExactGuardedBy.f (k : Nat) (a0_0 : Int) (a0_1 : Int) (l0_2 : List Int) (a1_0 : Int) (a1_1 : Int) (l2 : List Int) : Option (Bool) := if (l2.length : Int) > 1048576 then (some true) else ((laws_szBoard.f a0_0 a0_1 l0_2 1048576).bind fun t890 => (if t890 < 0 then (some true) else ((laws_toBoard.f k a0_0 a0_1 l0_2).bind fun bt891 => ((laws_toLeaper.f a1_0 a1_1).bind fun bt896 => ((laws_toIntS.f k l2).bind fun t898 => ((spec_GuardedBy.f k bt891.1 bt891.2.1 bt891.2.2 bt896.1 bt896.2 t898).bind fun bt901 => ((laws_toBoard.f k a0_0 a0_1 l0_2).bind fun bt905 => ((laws_toIntS.f k l2).bind fun t911 => ((laws_toLeaper.f a1_0 a1_1).bind fun bt914 => ((impl_GuardedBy.f k bt905.1 bt905.2.1 bt905.2.2 bt914.1 bt914.2 t911).bind fun bt916 => ((laws_eqIntS.f k bt916.1 bt901.1).bind fun t920 => (if t920 = true then (laws_FnExactGuardedBy.j0 k l2 bt901.1 bt901.2 t911 bt916.1 bt916.2 (bt916.2 != bt901.2) a0_0 a0_1 l0_2 a1_0 a1_1 bt905.1 bt905.2.1 bt905.2.2) else (laws_FnExactGuardedBy.j0 k l2 bt901.1 bt901.2 t911 bt916.1 bt916.2 true a0_0 a0_1 l0_2 a1_0 a1_1 bt905.1 bt905.2.1 bt905.2.2)))))))))))))
def laws_FnExactGuardedBy.T7 : Bool × List (List Nat × List Nat) := (true, [([], []), ([0], [0]), ([], []), ([2, 1], [2]), ([], []), ([4, 3], [4]), ([1, 3, 5, 5], [1, 3, 5]), ([6], [6]), ([7], [7]), ([7], [7]), ([8, 6, 0, 1, 2, 3, 4, 5, 6, 7, 8], [8]), ([9, 10, 0, 1, 2, 3, 4, 5, 6, 7, 8, 9, 10], [9])])
def laws_FnExactGuardedBy.B7 : List Nat := [0, 1, 0, 7, 0, 31, 63, 127, 255, 255, 511, 2047]
theorem laws_FnExactGuardedBy.tab7 : rtab .any (opsOf Try.f10 7) = laws_FnExactGuardedBy.T7 := by kernel_rfl
theorem laws_FnExactGuardedBy.bits7 : waitsOk laws_FnExactGuardedBy.T7.2 laws_FnExactGuardedBy.B7 = true := by kernel_rfl
def laws_FnExactGuardedBy.T10 : Bool × List (List Nat × List Nat) := (true, [([], []), ([], []), ([1], [1]), ([], []), ([0, 2, 3, 2], [0, 2, 3]), ([4], [4]), ([5], [5]), ([5], [5]), ([6, 4, 0, 1, 2, 3, 4, 5, 6], [6]), ([7, 8, 0, 1, 2, 3, 4, 5, 6, 7, 8], [7])])
def laws_FnExactGuardedBy.B10 : List Nat := [0, 0, 2, 0, 15, 31, 63, 63, 127, 511]
theorem laws_FnExactGuardedBy.tab10 : rtab .any (opsOf Try.f10 10) = laws_FnExactGuardedBy.T10 := by kernel_rfl
theorem laws_FnExactGuardedBy.bits10 : waitsOk laws_FnExactGuardedBy.T10.2 laws_FnExactGuardedBy.B10 = true := by kernel_rfl
def laws_FnExactGuardedBy.T30 : Bool × List (List Nat × List Nat) := (true, [([], []), ([0], [0]), ([], []), ([2, 1], [2]), ([], []), ([4, 3], [4]), ([1, 3, 5, 5], [1, 3, 5]), ([6], [6]), ([7], [7]), ([7], [7]), ([8, 6, 0, 1, 2, 3, 4, 5, 6, 7, 8], [8]), ([9, 10, 0, 1, 2, 3, 4, 5, 6, 7, 8, 9, 10], [9])])
def laws_FnExactGuardedBy.B30 : List Nat := [0, 1, 0, 7, 0, 31, 63, 127, 255, 255, 511, 2047]
theorem laws_FnExactGuardedBy.tab30 : rtab .any (opsOf Try.f10 30) = laws_FnExactGuardedBy.T30 := by kernel_rfl
theorem laws_FnExactGuardedBy.bits30 : waitsOk laws_FnExactGuardedBy.T30.2 laws_FnExactGuardedBy.B30 = true := by kernel_rfl
set_option maxHeartbeats 8000000 in
set_option maxRecDepth 100000 in
theorem laws_FnExactGuardedBy.calls (k : Nat) (a0_0 : Int) (a0_1 : Int) (A0_2 : Option Addr) (c0_2 : Nat) (l0_2 : List Int) (a1_0 : Int) (a1_1 : Int) (A2 : Option Addr) (c2 : Nat) (l2 : List Int) (r : Bool) (w : World) (hr0_2 : Kd.C (Kd.int .i64) w A0_2 l0_2.length l0_2) (hc0_2 : l0_2.length ≤ c0_2) (hr2 : Kd.C (Kd.int .i64) w A2 l2.length l2) (hc2 : l2.length ≤ c2) (h : laws_FnExactGuardedBy.f k a0_0 a0_1 l0_2 a1_0 a1_1 l2 = some r) :
  Calls Try.prog 10 #[.agg #[.int .i64 a0_0, .int .i64 a0_1, .slice A0_2 l0_2.length c0_2], .agg #[.int .i64 a1_0, .int .i64 a1_1], .slice A2 l2.length c2] w fun e w' => e = .returned (.bool r) ∧ Below w.heap.size w w' := by
 have hu24 := Try.underlying24
 have hu26 := Try.underlying26
 have hu30 := Try.underlying30
 have HR0_2 := Aside0.mk hr0_2
 have HC0_2 := Aside0.mk hc0_2
 clear hr0_2 hc0_2
 have HR2 := Aside0.mk hr2
 have HC2 := Aside0.mk hc2
 clear hr2 hc2
 have HB := Aside0.mk (Below.refl w.heap.size w)
 have H : (if (l2.length : Int) > 1048576 then (some true) else ((laws_szBoard.f a0_0 a0_1 l0_2 1048576).bind fun t890 => (if t890 < 0 then (some true) else ((laws_toBoard.f k a0_0 a0_1 l0_2).bind fun bt891 => ((laws_toLeaper.f a1_0 a1_1).bind fun bt896 => ((laws_toIntS.f k l2).bind fun t898 => ((spec_GuardedBy.f k bt891.1 bt891.2.1 bt891.2.2 bt896.1 bt896.2 t898).bind fun bt901 => ((laws_toBoard.f k a0_0 a0_1 l0_2).bind fun bt905 => ((laws_toIntS.f k l2).bind fun t911 => ((laws_toLeaper.f a1_0 a1_1).bind fun bt914 => ((impl_GuardedBy.f k bt905.1 bt905.2.1 bt905.2.2 bt914.1 bt914.2 t911).bind fun bt916 => ((laws_eqIntS.f k bt916.1 bt901.1).bind fun t920 => (if t920 = true then (laws_FnExactGuardedBy.j0 k l2 bt901.1 bt901.2 t911 bt916.1 bt916.2 (bt916.2 != bt901.2) a0_0 a0_1 l0_2 a1_0 a1_1 bt905.1 bt905.2.1 bt905.2.2) else (laws_FnExactGuardedBy.j0 k l2 bt901.1 bt901.2 t911 bt916.1 bt916.2 true a0_0 a0_1 l0_2 a1_0 a1_1 bt905.1 bt905.2.1 bt905.2.2)))))))))))))) = some r := h
 clear h
 by_cases c4 : (l2.length : Int) > 1048576
 ·rw [if_pos c4] at H
  have c4b0 : decide (1048576 < (l2.length : Int)) = true := decide_eq_true c4
  have c4b1 : decide (1048576 < l2.length) = true := decide_eq_true (by omega)
  clear c4
  obtain rfl := Option.some.inj H
  go_enter Try.func10, Try.ntmps10
  go_wp2_with (first | ((with_reducible refine gate_dst (N := 3) rfl ?_); refine box_event ?hg (N := 3) ?hd (cs := #[.int .i64 a0_0, .int .i64 a0_1, .slice A0_2 l0_2.length c0_2]) (t := 24) ?hr ?_; (case hd => rfl); (case hg => rfl); (case hr => first | (go_simp; done) | (go_simp; rfl)); intro gb888 hg w5 hbox hb; have n0_ := Aside0.mk (below_step zal15 hb); have n1_ := Aside0.mk (hbox); have n2_ := Aside0.mk ((zal54 : w.heap.size ≤ gb888)); have n3_ := Aside0.mk ((zal54 : w.heap.size ≤ gb888)); clear HB; have HB := n0_; have BK888 := n1_; have GW888 := n2_; have GE888 := n3_; clear n0_ n1_ n2_ n3_; clear hb hbox hg) | ((with_reducible refine gate_dst (N := 4) rfl ?_); refine box_event ?hg (N := 4) ?hd (cs := #[.int .i64 a1_0, .int .i64 a1_1]) (t := 26) ?hr ?_; (case hd => rfl); (case hg => rfl); (case hr => first | (go_simp; done) | (go_simp; rfl)); intro gb889 hg w6 hbox hb; have n0_ := Aside0.mk (blk_below (g := gb888) (o := .cells #[.int .i64 a0_0, .int .i64 a0_1, .slice A0_2 l0_2.length c0_2] 24 (0, 0)) zal2 hb); have n1_ := Aside0.mk (below_step zal11 hb); have n2_ := Aside0.mk (hbox); have n3_ := Aside0.mk ((zal55 : w.heap.size ≤ gb889)); have n4_ := Aside0.mk ((zal55 : w.heap.size ≤ gb889)); have n5_ := Aside0.mk ((zal52 : gb888 ≠ gb889)); have n6_ := Aside0.mk ((zal53 : gb889 ≠ gb888)); clear BK888; clear HB; have BK888 := n0_; have HB := n1_; have BK889 := n2_; have GW889 := n3_; have GE889 := n4_; have NB888_889 := n5_; have NB889_888 := n6_; clear n0_ n1_ n2_ n3_ n4_ n5_ n6_; clear hb hbox hg))
  go_ret
  exact ⟨zal17, zal6⟩
 rw [if_neg c4] at H
 have c4b0 : decide (1048576 < (l2.length : Int)) = false := decide_eq_false c4
 have c4b1 : decide (1048576 < l2.length) = false := decide_eq_false (by omega)
 clear c4
 replace H := Option.bind_eq_some_iff.mp H
 obtain ⟨t890, A70, H⟩ := H
 replace H : (if t890 < 0 then (some true) else ((laws_toBoard.f k a0_0 a0_1 l0_2).bind fun bt891 => ((laws_toLeaper.f a1_0 a1_1).bind fun bt896 => ((laws_toIntS.f k l2).bind fun t898 => ((spec_GuardedBy.f k bt891.1 bt891.2.1 bt891.2.2 bt896.1 bt896.2 t898).bind fun bt901 => ((laws_toBoard.f k a0_0 a0_1 l0_2).bind fun bt905 => ((laws_toIntS.f k l2).bind fun t911 => ((laws_toLeaper.f a1_0 a1_1).bind fun bt914 => ((impl_GuardedBy.f k bt905.1 bt905.2.1 bt905.2.2 bt914.1 bt914.2 t911).bind fun bt916 => ((laws_eqIntS.f k bt916.1 bt901.1).bind fun t920 => (if t920 = true then (laws_FnExactGuardedBy.j0 k l2 bt901.1 bt901.2 t911 bt916.1 bt916.2 (bt916.2 != bt901.2) a0_0 a0_1 l0_2 a1_0 a1_1 bt905.1 bt905.2.1 bt905.2.2) else (laws_FnExactGuardedBy.j0 k l2 bt901.1 bt901.2 t911 bt916.1 bt916.2 true a0_0 a0_1 l0_2 a1_0 a1_1 bt905.1 bt905.2.1 bt905.2.2)))))))))))) = some r := H
 have A7 := Aside0.mk A70
 clear A70
 by_cases c8 : t890 < 0
 ·rw [if_pos c8] at H
  have c8b0 : decide (t890 < 0) = true := decide_eq_true c8
  clear c8
  obtain rfl := Option.some.inj H
  go_enter Try.func10, Try.ntmps10
  go_wp2_with (first | ((with_reducible refine gate_dst (N := 3) rfl ?_); refine box_event ?hg (N := 3) ?hd (cs := #[.int .i64 a0_0, .int .i64 a0_1, .slice A0_2 l0_2.length c0_2]) (t := 24) ?hr ?_; (case hd => rfl); (case hg => rfl); (case hr => first | (go_simp; done) | (go_simp; rfl)); intro gb888 hg w9 hbox hb; have n0_ := Aside0.mk (below_step zal15 hb); have n1_ := Aside0.mk (hbox); have n2_ := Aside0.mk ((zal54 : w.heap.size ≤ gb888)); have n3_ := Aside0.mk ((zal54 : w.heap.size ≤ gb888)); clear HB; have HB := n0_; have BK888 := n1_; have GW888 := n2_; have GE888 := n3_; clear n0_ n1_ n2_ n3_; clear hb hbox hg) | ((with_reducible refine gate_dst (N := 4) rfl ?_); refine box_event ?hg (N := 4) ?hd (cs := #[.int .i64 a1_0, .int .i64 a1_1]) (t := 26) ?hr ?_; (case hd => rfl); (case hg => rfl); (case hr => first | (go_simp; done) | (go_simp; rfl)); intro gb889 hg w10 hbox hb; have n0_ := Aside0.mk (blk_below (g := gb888) (o := .cells #[.int .i64 a0_0, .int .i64 a0_1, .slice A0_2 l0_2.length c0_2] 24 (0, 0)) zal2 hb); have n1_ := Aside0.mk (below_step zal11 hb); have n2_ := Aside0.mk (hbox); have n3_ := Aside0.mk ((zal55 : w.heap.size ≤ gb889)); have n4_ := Aside0.mk ((zal55 : w.heap.size ≤ gb889)); have n5_ := Aside0.mk ((zal52 : gb888 ≠ gb889)); have n6_ := Aside0.mk ((zal53 : gb889 ≠ gb888)); clear BK888; clear HB; have BK888 := n0_; have HB := n1_; have BK889 := n2_; have GW889 := n3_; have GE889 := n4_; have NB888_889 := n5_; have NB889_888 := n6_; clear n0_ n1_ n2_ n3_ n4_ n5_ n6_; clear hb hbox hg; have hnb11 := NB888_889.out; have hnc11 := NB889_888.out; have hcz12_0 : w10.cell? ⟨gb888, 0, none⟩ = some (.int .i64 a0_0) := (blk_cell BK888.out 0).trans rfl; have hcz12_1 : w10.cell? ⟨gb888, 1, none⟩ = some (.int .i64 a0_1) := (blk_cell BK888.out 1).trans rfl; have hcz12_2 : w10.cell? ⟨gb888, 2, none⟩ = some (.slice A0_2 l0_2.length c0_2) := (blk_cell BK888.out 2).trans rfl; have hfz12_0 := blk_frozen BK888.out 0; have hfz12_1 := blk_frozen BK888.out 1; have hfz12_2 := blk_frozen BK888.out 2) | ((with_reducible refine gate_callee (f := 15) rfl ?_); refine goesL_ (some 24) rfl rfl Try.func15 (by kernel_rfl) rfl #[.agg #[.int .i64 a0_0, .int .i64 a0_1, .slice A0_2 l0_2.length c0_2], .int .i64 1048576] rfl zal3 ?_; (with_reducible refine (laws_szBoard.calls a0_0 a0_1 _ _ l0_2 1048576 t890 _ ?side1 ?side2 A7.out).mono ?_); (case side1 => exact zal13); (case side2 => exact HC0_2.out); rintro e w13 ⟨rfl, hb⟩; refine ⟨_, rfl, ?_⟩; have n0_ := Aside0.mk (blk_below (g := gb888) (o := .cells #[.int .i64 a0_0, .int .i64 a0_1, .slice A0_2 l0_2.length c0_2] 24 (0, 0)) zal2 hb); have n1_ := Aside0.mk (blk_below (g := gb889) (o := .cells #[.int .i64 a1_0, .int .i64 a1_1] 26 (0, 0)) zal4 hb); have n2_ := Aside0.mk (below_step zal6 hb); clear BK888; clear BK889; clear HB; have BK888 := n0_; have BK889 := n1_; have HB := n2_; clear n0_ n1_ n2_; (try clear hb); (try clear hb2); (try clear hk); (try clear hi); (try clear hna_); (try clear hnb_)))
  go_ret
  exact ⟨zal17, zal6⟩
 rw [if_neg c8] at H
 have c8b0 : decide (t890 < 0) = false := decide_eq_false c8
 clear c8
 replace H := Option.bind_eq_some_iff.mp H
 obtain ⟨⟨t891, t892, t893⟩, A140, H⟩ := H
 replace H : ((laws_toLeaper.f a1_0 a1_1).bind fun bt896 => ((laws_toIntS.f k l2).bind fun t898 => ((spec_GuardedBy.f k t891 t892 t893 bt896.1 bt896.2 t898).bind fun bt901 => ((laws_toBoard.f k a0_0 a0_1 l0_2).bind fun bt905 => ((laws_toIntS.f k l2).bind fun t911 => ((laws_toLeaper.f a1_0 a1_1).bind fun bt914 => ((impl_GuardedBy.f k bt905.1 bt905.2.1 bt905.2.2 bt914.1 bt914.2 t911).bind fun bt916 => ((laws_eqIntS.f k bt916.1 bt901.1).bind fun t920 => (if t920 = true then (laws_FnExactGuardedBy.j0 k l2 bt901.1 bt901.2 t911 bt916.1 bt916.2 (bt916.2 != bt901.2) a0_0 a0_1 l0_2 a1_0 a1_1 bt905.1 bt905.2.1 bt905.2.2) else (laws_FnExactGuardedBy.j0 k l2 bt901.1 bt901.2 t911 bt916.1 bt916.2 true a0_0 a0_1 l0_2 a1_0 a1_1 bt905.1 bt905.2.1 bt905.2.2)))))))))) = some r := H
 have A14 := Aside0.mk A140
 clear A140
 replace H := Option.bind_eq_some_iff.mp H
 obtain ⟨⟨t896, t897⟩, A150, H⟩ := H
 replace H : ((laws_toIntS.f k l2).bind fun t898 => ((spec_GuardedBy.f k t891 t892 t893 t896 t897 t898).bind fun bt901 => ((laws_toBoard.f k a0_0 a0_1 l0_2).bind fun bt905 => ((laws_toIntS.f k l2).bind fun t911 => ((laws_toLeaper.f a1_0 a1_1).bind fun bt914 => ((impl_GuardedBy.f k bt905.1 bt905.2.1 bt905.2.2 bt914.1 bt914.2 t911).bind fun bt916 => ((laws_eqIntS.f k bt916.1 bt901.1).bind fun t920 => (if t920 = true then (laws_FnExactGuardedBy.j0 k l2 bt901.1 bt901.2 t911 bt916.1 bt916.2 (bt916.2 != bt901.2) a0_0 a0_1 l0_2 a1_0 a1_1 bt905.1 bt905.2.1 bt905.2.2) else (laws_FnExactGuardedBy.j0 k l2 bt901.1 bt901.2 t911 bt916.1 bt916.2 true a0_0 a0_1 l0_2 a1_0 a1_1 bt905.1 bt905.2.1 bt905.2.2))))))))) = some r := H
 have A15 := Aside0.mk A150
 clear A150
 replace H := Option.bind_eq_some_iff.mp H
 obtain ⟨t898, A160, H⟩ := H
 replace H : ((spec_GuardedBy.f k t891 t892 t893 t896 t897 t898).bind fun bt901 => ((laws_toBoard.f k a0_0 a0_1 l0_2).bind fun bt905 => ((laws_toIntS.f k l2).bind fun t911 => ((laws_toLeaper.f a1_0 a1_1).bind fun bt914 => ((impl_GuardedBy.f k bt905.1 bt905.2.1 bt905.2.2 bt914.1 bt914.2 t911).bind fun bt916 => ((laws_eqIntS.f k bt916.1 bt901.1).bind fun t920 => (if t920 = true then (laws_FnExactGuardedBy.j0 k l2 bt901.1 bt901.2 t911 bt916.1 bt916.2 (bt916.2 != bt901.2) a0_0 a0_1 l0_2 a1_0 a1_1 bt905.1 bt905.2.1 bt905.2.2) else (laws_FnExactGuardedBy.j0 k l2 bt901.1 bt901.2 t911 bt916.1 bt916.2 true a0_0 a0_1 l0_2 a1_0 a1_1 bt905.1 bt905.2.1 bt905.2.2)))))))) = some r := H
 have A16 := Aside0.mk A160
 clear A160
 replace H := Option.bind_eq_some_iff.mp H
 obtain ⟨⟨t901, t904⟩, A170, H⟩ := H
 replace H : ((laws_toBoard.f k a0_0 a0_1 l0_2).bind fun bt905 => ((laws_toIntS.f k l2).bind fun t911 => ((laws_toLeaper.f a1_0 a1_1).bind fun bt914 => ((impl_GuardedBy.f k bt905.1 bt905.2.1 bt905.2.2 bt914.1 bt914.2 t911).bind fun bt916 => ((laws_eqIntS.f k bt916.1 t901).bind fun t920 => (if t920 = true then (laws_FnExactGuardedBy.j0 k l2 t901 t904 t911 bt916.1 bt916.2 (bt916.2 != t904) a0_0 a0_1 l0_2 a1_0 a1_1 bt905.1 bt905.2.1 bt905.2.2) else (laws_FnExactGuardedBy.j0 k l2 t901 t904 t911 bt916.1 bt916.2 true a0_0 a0_1 l0_2 a1_0 a1_1 bt905.1 bt905.2.1 bt905.2.2))))))) = some r := H
 have A17 := Aside0.mk A170
 clear A170
 replace H := Option.bind_eq_some_iff.mp H
 obtain ⟨⟨t905, t906, t907⟩, A180, H⟩ := H
 replace H : ((laws_toIntS.f k l2).bind fun t911 => ((laws_toLeaper.f a1_0 a1_1).bind fun bt914 => ((impl_GuardedBy.f k t905 t906 t907 bt914.1 bt914.2 t911).bind fun bt916 => ((laws_eqIntS.f k bt916.1 t901).bind fun t920 => (if t920 = true then (laws_FnExactGuardedBy.j0 k l2 t901 t904 t911 bt916.1 bt916.2 (bt916.2 != t904) a0_0 a0_1 l0_2 a1_0 a1_1 t905 t906 t907) else (laws_FnExactGuardedBy.j0 k l2 t901 t904 t911 bt916.1 bt916.2 true a0_0 a0_1 l0_2 a1_0 a1_1 t905 t906 t907)))))) = some r := H
 have A18 := Aside0.mk A180
 clear A180
 replace H := Option.bind_eq_some_iff.mp H
 obtain ⟨t911, A190, H⟩ := H
 replace H : ((laws_toLeaper.f a1_0 a1_1).bind fun bt914 => ((impl_GuardedBy.f k t905 t906 t907 bt914.1 bt914.2 t911).bind fun bt916 => ((laws_eqIntS.f k bt916.1 t901).bind fun t920 => (if t920 = true then (laws_FnExactGuardedBy.j0 k l2 t901 t904 t911 bt916.1 bt916.2 (bt916.2 != t904) a0_0 a0_1 l0_2 a1_0 a1_1 t905 t906 t907) else (laws_FnExactGuardedBy.j0 k l2 t901 t904 t911 bt916.1 bt916.2 true a0_0 a0_1 l0_2 a1_0 a1_1 t905 t906 t907))))) = some r := H
 have A19 := Aside0.mk A190
 clear A190
 replace H := Option.bind_eq_some_iff.mp H
 obtain ⟨⟨t914, t915⟩, A200, H⟩ := H
 replace H : ((impl_GuardedBy.f k t905 t906 t907 t914 t915 t911).bind fun bt916 => ((laws_eqIntS.f k bt916.1 t901).bind fun t920 => (if t920 = true then (laws_FnExactGuardedBy.j0 k l2 t901 t904 t911 bt916.1 bt916.2 (bt916.2 != t904) a0_0 a0_1 l0_2 a1_0 a1_1 t905 t906 t907) else (laws_FnExactGuardedBy.j0 k l2 t901 t904 t911 bt916.1 bt916.2 true a0_0 a0_1 l0_2 a1_0 a1_1 t905 t906 t907)))) = some r := H
 have A20 := Aside0.mk A200
 clear A200
 replace H := Option.bind_eq_some_iff.mp H
 obtain ⟨⟨t916, t919⟩, A210, H⟩ := H
 replace H : ((laws_eqIntS.f k t916 t901).bind fun t920 => (if t920 = true then (laws_FnExactGuardedBy.j0 k l2 t901 t904 t911 t916 t919 (t919 != t904) a0_0 a0_1 l0_2 a1_0 a1_1 t905 t906 t907) else (laws_FnExactGuardedBy.j0 k l2 t901 t904 t911 t916 t919 true a0_0 a0_1 l0_2 a1_0 a1_1 t905 t906 t907))) = some r := H
 have A21 := Aside0.mk A210
 clear A210
 have HC22 := Aside0.mk H
 clear H
 go_enter Try.func10, Try.ntmps10
 try go_wp2_with (first | ((with_reducible refine gate_dst (N := 3) rfl ?_); refine box_event ?hg (N := 3) ?hd (cs := #[.int .i64 a0_0, .int .i64 a0_1, .slice A0_2 l0_2.length c0_2]) (t := 24) ?hr ?_; (case hd => rfl); (case hg => rfl); (case hr => first | (go_simp; done) | (go_simp; rfl)); intro gb888 hg w23 hbox hb; have n0_ := Aside0.mk (below_step zal15 hb); have n1_ := Aside0.mk (hbox); have n2_ := Aside0.mk ((zal54 : w.heap.size ≤ gb888)); have n3_ := Aside0.mk ((zal54 : w.heap.size ≤ gb888)); clear HB; have HB := n0_; have BK888 := n1_; have GW888 := n2_; have GE888 := n3_; clear n0_ n1_ n2_ n3_; clear hb hbox hg) | ((with_reducible refine gate_dst (N := 4) rfl ?_); refine box_event ?hg (N := 4) ?hd (cs := #[.int .i64 a1_0, .int .i64 a1_1]) (t := 26) ?hr ?_; (case hd => rfl); (case hg => rfl); (case hr => first | (go_simp; done) | (go_simp; rfl)); intro gb889 hg w24 hbox hb; have n0_ := Aside0.mk (blk_below (g := gb888) (o := .cells #[.int .i64 a0_0, .int .i64 a0_1, .slice A0_2 l0_2.length c0_2] 24 (0, 0)) zal2 hb); have n1_ := Aside0.mk (below_step zal11 hb); have n2_ := Aside0.mk (hbox); have n3_ := Aside0.mk ((zal55 : w.heap.size ≤ gb889)); have n4_ := Aside0.mk ((zal55 : w.heap.size ≤ gb889)); have n5_ := Aside0.mk ((zal52 : gb888 ≠ gb889)); have n6_ := Aside0.mk ((zal53 : gb889 ≠ gb888)); clear BK888; clear HB; have BK888 := n0_; have HB := n1_; have BK889 := n2_; have GW889 := n3_; have GE889 := n4_; have NB888_889 := n5_; have NB889_888 := n6_; clear n0_ n1_ n2_ n3_ n4_ n5_ n6_; clear hb hbox hg; have hnb25 := NB888_889.out; have hnc25 := NB889_888.out; have hcz26_0 : w24.cell? ⟨gb888, 0, none⟩ = some (.int .i64 a0_0) := (blk_cell BK888.out 0).trans rfl; have hcz26_1 : w24.cell? ⟨gb888, 1, none⟩ = some (.int .i64 a0_1) := (blk_cell BK888.out 1).trans rfl; have hcz26_2 : w24.cell? ⟨gb888, 2, none⟩ = some (.slice A0_2 l0_2.length c0_2) := (blk_cell BK888.out 2).trans rfl; have hfz26_0 := blk_frozen BK888.out 0; have hfz26_1 := blk_frozen BK888.out 1; have hfz26_2 := blk_frozen BK888.out 2) | ((with_reducible refine gate_callee (f := 15) rfl ?_); refine goesL_ (some 24) rfl rfl Try.func15 (by kernel_rfl) rfl #[.agg #[.int .i64 a0_0, .int .i64 a0_1, .slice A0_2 l0_2.length c0_2], .int .i64 1048576] rfl zal3 ?_; (with_reducible refine (laws_szBoard.calls a0_0 a0_1 _ _ l0_2 1048576 t890 _ ?side1 ?side2 A7.out).mono ?_); (case side1 => exact zal13); (case side2 => exact HC0_2.out); rintro e w27 ⟨rfl, hb⟩; refine ⟨_, rfl, ?_⟩; have n0_ := Aside0.mk (blk_below (g := gb888) (o := .cells #[.int .i64 a0_0, .int .i64 a0_1, .slice A0_2 l0_2.length c0_2] 24 (0, 0)) zal2 hb); have n1_ := Aside0.mk (blk_below (g := gb889) (o := .cells #[.int .i64 a1_0, .int .i64 a1_1] 26 (0, 0)) zal4 hb); have n2_ := Aside0.mk (below_step zal6 hb); clear BK888; clear BK889; clear HB; have BK888 := n0_; have BK889 := n1_; have HB := n2_; clear n0_ n1_ n2_; (try clear hb); (try clear hb2); (try clear hk); (try clear hi); (try clear hna_); (try clear hnb_)))
 have n0_ := Aside0.mk (blk_drew BK888.out)
 have n1_ := Aside0.mk (blk_drew BK889.out)
 have n2_ := Aside0.mk (below_drew1 HB.out)
 clear BK888
 clear BK889
 clear HB
 have BK888 := n0_
 have BK889 := n1_
 have HB := n2_
 clear n0_ n1_ n2_
 refine start_ (n := 12) (S := fun w' => w'.cell? ⟨gb888, 0, none⟩ = some (.int .i64 a0_0) ∧ w'.cell? ⟨gb888, 1, none⟩ = some (.int .i64 a0_1) ∧ w'.cell? ⟨gb888, 2, none⟩ = some (.slice A0_2 l0_2.length c0_2) ∧ w'.cell? ⟨gb889, 0, none⟩ = some (.int .i64 a1_0) ∧ w'.cell? ⟨gb889, 1, none⟩ = some (.int .i64 a1_1)) (ds := []) #[false, false, false, false, false, false, false, false, false, false, false, false] (by kernel_rfl) rfl rfl ⟨(blk_cell BK888.out 0).trans rfl, (blk_cell BK888.out 1).trans rfl, (blk_cell BK888.out 2).trans rfl, (blk_cell BK889.out 0).trans rfl, (blk_cell BK889.out 1).trans rfl⟩ (fun hHeld => ?_); refine with_tabW laws_FnExactGuardedBy.tab7 laws_FnExactGuardedBy.bits7 (fun HT_ HW_ => ?_)
 generalize w27.drew = w28 at BK888 BK889 HB hHeld ⊢
 refine pure_ (i := 4) (N := some 32) (v := ?_) (a' := ?_) #[false, false, false, false, true, false, false, false, false, false, false, false] rfl rfl (any_of HT_.out (by kernel_rfl)) (fun _ _ _ h => h) (Or.inl ⟨by rfl, ?_⟩) ?_ ?_
 rotate_left
 ·intro w'
  go_simp
  with_reducible rfl
 rotate_left
 ·simp only [Act.put, List.setIfInBounds_toArray, List.set_cons_zero, List.set_cons_succ, i64_w, i32_w]
  rfl
 refine take_ (i := 0) (N := some 28) (v := ?_) (a' := ?_) #[true, false, false, false, true, false, false, false, false, false, false, false] rfl rfl (take_ofW HT_.out HW_.out (by kernel_rfl)) (fun _ _ _ h => h) (Or.inl ⟨by rfl, ?_⟩) hHeld ?_ ?_
 rotate_left
 ·rintro w' ⟨s0, s1, s2, s3, s4⟩
  go_simp
  with_reducible rfl
 rotate_left
 ·simp only [Act.put, List.setIfInBounds_toArray, List.set_cons_zero, List.set_cons_succ, i64_w, i32_w]
  rfl
 refine take_ (i := 2) (N := some 30) (v := ?_) (a' := ?_) #[true, false, true, false, true, false, false, false, false, false, false, false] rfl rfl (take_ofW HT_.out HW_.out (by kernel_rfl)) (fun _ _ _ h => h) (Or.inl ⟨by rfl, ?_⟩) hHeld ?_ ?_
 rotate_left
 ·rintro w' ⟨s0, s1, s2, s3, s4⟩
  go_simp
  with_reducible rfl
 rotate_left
 ·simp only [Act.put, List.setIfInBounds_toArray, List.set_cons_zero, List.set_cons_succ, i64_w, i32_w]
  rfl
 refine one_ (i := 1) (N := some 29) #[true, true, true, false, true, false, false, false, false, false, false, false] rfl rfl (one_of HT_.out (by kernel_rfl)) (by decide) (fun K hK => ?_)
 refine goes_ Try.func17 (by kernel_rfl) rfl #[.agg #[.int .i64 a0_0, .int .i64 a0_1, .slice A0_2 l0_2.length c0_2]] (by rfl) rfl rfl zal3 ?_
 with_reducible refine (laws_toBoard.calls k a0_0 a0_1 _ _ l0_2 t891 t892 t893 _ ?side1 ?side2 A14.out).mono ?_
 (case side1 => exact zal13)
 (case side2 => exact HC0_2.out)
 rintro e w29 ⟨v894, rfl, ho0, hb⟩
 refine ⟨_, rfl, ?_⟩
 have n0_ := Aside0.mk (Kd.R_lower ho0 (below_size zal6))
 have n1_ := Aside0.mk (blk_below (g := gb888) (o := .cells #[.int .i64 a0_0, .int .i64 a0_1, .slice A0_2 l0_2.length c0_2] 24 (0, 0)) zal2 hb)
 have n2_ := Aside0.mk (blk_below (g := gb889) (o := .cells #[.int .i64 a1_0, .int .i64 a1_1] 26 (0, 0)) zal4 hb)
 have n3_ := Aside0.mk (below_step zal6 hb)
 clear BK888
 clear BK889
 clear HB
 have HO895 := n0_
 have BK888 := n1_
 have BK889 := n2_
 have HB := n3_
 clear n0_ n1_ n2_ n3_
 (try clear hb)
 (try clear hb2)
 (try clear hk)
 (try clear hi)
 (try clear ho0)
 (try clear hna_)
 (try clear hnb_)
 refine hK.out _ _ ⟨(blk_cell BK888.out 0).trans rfl, (blk_cell BK888.out 1).trans rfl, (blk_cell BK888.out 2).trans rfl, (blk_cell BK889.out 0).trans rfl, (blk_cell BK889.out 1).trans rfl⟩ (fun hHeld => ?_)
 clear hK K
 refine norm_ (a' := ?_) ?_ ?_
 rotate_left
 ·show Act.put _ (some 29) _ = _
  simp only [Act.put, List.setIfInBounds_toArray, List.set_cons_zero, List.set_cons_succ, i64_w, i32_w]
  rfl
 refine one_ (i := 3) (N := some 31) #[true, true, true, true, true, false, false, false, false, false, false, false] rfl rfl (one_of HT_.out (by kernel_rfl)) (by decide) (fun K hK => ?_)
 refine goes_ Try.func18 (by kernel_rfl) rfl #[.agg #[.int .i64 a1_0, .int .i64 a1_1]] (by rfl) rfl rfl zal3 ?_
 with_reducible refine (laws_toLeaper.calls a1_0 a1_1 t896 t897 _ A15.out).mono ?_
 rintro e w30 ⟨rfl, hb⟩
 refine ⟨_, rfl, ?_⟩
 have n0_ := Aside0.mk (Kd.R_below zal16 hb)
 have n1_ := Aside0.mk (blk_below (g := gb888) (o := .cells #[.int .i64 a0_0, .int .i64 a0_1, .slice A0_2 l0_2.length c0_2] 24 (0, 0)) zal2 hb)
 have n2_ := Aside0.mk (blk_below (g := gb889) (o := .cells #[.int .i64 a1_0, .int .i64 a1_1] 26 (0, 0)) zal4 hb)
 have n3_ := Aside0.mk (below_step zal6 hb)
 clear HO895
 clear BK888
 clear BK889
 clear HB
 have HO895 := n0_
 have BK888 := n1_
 have BK889 := n2_
 have HB := n3_
 clear n0_ n1_ n2_ n3_
 (try clear hb)
 (try clear hb2)
 (try clear hk)
 (try clear hi)
 (try clear hna_)
 (try clear hnb_)
 refine hK.out _ _ ⟨(blk_cell BK888.out 0).trans rfl, (blk_cell BK888.out 1).trans rfl, (blk_cell BK888.out 2).trans rfl, (blk_cell BK889.out 0).trans rfl, (blk_cell BK889.out 1).trans rfl⟩ (fun hHeld => ?_)
 clear hK K
 refine norm_ (a' := ?_) ?_ ?_
 rotate_left
 ·show Act.put _ (some 31) _ = _
  simp only [Act.put, List.setIfInBounds_toArray, List.set_cons_zero, List.set_cons_succ, i64_w, i32_w]
  rfl
 refine one_ (i := 5) (N := some 33) #[true, true, true, true, true, true, false, false, false, false, false, false] rfl rfl (one_of HT_.out (by kernel_rfl)) (by decide) (fun K hK => ?_)
 refine goes_ Try.func19 (by kernel_rfl) rfl #[.slice A2 l2.length c2] (by rfl) rfl rfl zal3 ?_
 with_reducible refine (laws_toIntS.calls k _ _ l2 t898 _ ?side1 ?side2 A16.out).mono ?_
 (case side1 => exact zal21)
 (case side2 => exact HC2.out)
 rintro e w31 ⟨v899, rfl, ho0, hb⟩
 refine ⟨_, rfl, ?_⟩
 have n0_ := Aside0.mk (Kd.R_elder' zal16 (Kd.R_base ho0) hb)
 have n1_ := Aside0.mk (Kd.R_lower (Kd.R_new' ho0 (Kd.R_lt zal16)) (below_size zal6))
 have n2_ := Aside0.mk (blk_below (g := gb888) (o := .cells #[.int .i64 a0_0, .int .i64 a0_1, .slice A0_2 l0_2.length c0_2] 24 (0, 0)) zal2 hb)
 have n3_ := Aside0.mk (blk_below (g := gb889) (o := .cells #[.int .i64 a1_0, .int .i64 a1_1] 26 (0, 0)) zal4 hb)
 have n4_ := Aside0.mk (below_step zal6 hb)
 clear HO895
 clear BK888
 clear BK889
 clear HB
 have HO895 := n0_
 have HO900 := n1_
 have BK888 := n2_
 have BK889 := n3_
 have HB := n4_
 clear n0_ n1_ n2_ n3_ n4_
 (try clear hb)
 (try clear hb2)
 (try clear hk)
 (try clear hi)
 (try clear ho0)
 (try clear hna_)
 (try clear hnb_)
 obtain ⟨Ao32, co32, eo32⟩ := Kd.R_slice HO895.out
 (first | subst eo32 | (injection eo32 with f1_ f2_ f3_; have f4_ := f1_.symm; have f5_ := f3_.symm; clear f1_ f2_ f3_; subst f4_; subst f5_))
 obtain ⟨Ao33, co33, eo33⟩ := Kd.R_slice HO900.out
 (first | subst eo33 | (injection eo33 with f1_ f2_ f3_; have f4_ := f1_.symm; have f5_ := f3_.symm; clear f1_ f2_ f3_; subst f4_; subst f5_))
 refine hK.out _ _ ⟨(blk_cell BK888.out 0).trans rfl, (blk_cell BK888.out 1).trans rfl, (blk_cell BK888.out 2).trans rfl, (blk_cell BK889.out 0).trans rfl, (blk_cell BK889.out 1).trans rfl⟩ (fun hHeld => ?_)
 clear hK K
 refine norm_ (a' := ?_) ?_ ?_
 rotate_left
 ·show Act.put _ (some 33) _ = _
  simp only [Act.put, List.setIfInBounds_toArray, List.set_cons_zero, List.set_cons_succ, i64_w, i32_w]
  rfl
 refine one_ (i := 6) (N := some 34) #[true, true, true, true, true, true, true, false, false, false, false, false] rfl rfl (one_of HT_.out (by kernel_rfl)) (by decide) (fun K hK => ?_)
 refine goes_ Try.func38 (by kernel_rfl) rfl #[.agg #[.int .i64 t891, .int .i64 t892, .slice Ao32 t893.length co32], .agg #[.int .i64 t896, .int .i64 t897], .slice Ao33 t898.length co33] (by rfl) rfl rfl zal3 ?_
 with_reducible refine (spec_GuardedBy.calls k t891 t892 _ _ t893 t896 t897 _ _ t898 t901 t904 _ ?side1 ?side2 ?side3 ?side4 A17.out).mono ?_
 (case side1 => repeat (first | exact (Kd.R_reads' HO895.out).2.2 | (with_reducible refine Kd.C_alloc ?_ _) | (with_reducible refine Kd.C_drewN ?_ _) | (with_reducible refine Kd.C_drew ?_)))
 (case side2 => exact (Kd.R_reads' HO895.out).2.1)
 (case side3 => repeat (first | exact (Kd.R_reads' HO900.out).2.2 | (with_reducible refine Kd.C_alloc ?_ _) | (with_reducible refine Kd.C_drewN ?_ _) | (with_reducible refine Kd.C_drew ?_)))
 (case side4 => exact (Kd.R_reads' HO900.out).2.1)
 rintro e w34 ⟨v902, rfl, ho0, hb⟩
 refine ⟨_, rfl, ?_⟩
 have n0_ := Aside0.mk (Kd.R_elder' zal16 (Kd.R_base ho0) hb)
 have n1_ := Aside0.mk (Kd.R_elder' zal18 (Kd.R_base ho0) hb)
 have n2_ := Aside0.mk (Kd.R_lower (Kd.R_new' (Kd.R_new' ho0 (Kd.R_lt zal16)) (Kd.R_lt zal18)) (below_size zal6))
 have n3_ := Aside0.mk (blk_below (g := gb888) (o := .cells #[.int .i64 a0_0, .int .i64 a0_1, .slice A0_2 l0_2.length c0_2] 24 (0, 0)) zal2 hb)
 have n4_ := Aside0.mk (blk_below (g := gb889) (o := .cells #[.int .i64 a1_0, .int .i64 a1_1] 26 (0, 0)) zal4 hb)
 have n5_ := Aside0.mk (below_step zal6 hb)
 clear HO895
 clear HO900
 clear BK888
 clear BK889
 clear HB
 have HO895 := n0_
 have HO900 := n1_
 have HO903 := n2_
 have BK888 := n3_
 have BK889 := n4_
 have HB := n5_
 clear n0_ n1_ n2_ n3_ n4_ n5_
 (try clear hb)
 (try clear hb2)
 (try clear hk)
 (try clear hi)
 (try clear ho0)
 (try clear hna_)
 (try clear hnb_)
 refine hK.out _ _ ⟨(blk_cell BK888.out 0).trans rfl, (blk_cell BK888.out 1).trans rfl, (blk_cell BK888.out 2).trans rfl, (blk_cell BK889.out 0).trans rfl, (blk_cell BK889.out 1).trans rfl⟩ (fun hHeld => ?_)
 clear hK K
 refine norm_ (a' := ?_) ?_ ?_
 rotate_left
 ·show Act.put _ (some 34) _ = _
  simp only [Act.put, List.setIfInBounds_toArray, List.set_cons_zero, List.set_cons_succ, i64_w, i32_w]
  rfl
 refine pure_ (i := 7) (N := some 27) (v := ?_) (a' := ?_) #[true, true, true, true, true, true, true, true, false, false, false, false] rfl rfl (any_of HT_.out (by kernel_rfl)) (fun _ _ _ h => h) (Or.inl ⟨by rfl, ?_⟩) ?_ ?_
 rotate_left
 ·intro w'
  go_simp
  with_reducible rfl
 rotate_left
 ·simp only [Act.put, List.setIfInBounds_toArray, List.set_cons_zero, List.set_cons_succ, i64_w, i32_w]
  rfl
 refine pure_ (i := 8) (N := some 35) (v := ?_) (a' := ?_) #[true, true, true, true, true, true, true, true, true, false, false, false] rfl rfl (any_of HT_.out (by kernel_rfl)) (fun _ _ _ h => h) (Or.inl ⟨by rfl, ?_⟩) ?_ ?_
 rotate_left
 ·intro w'
  go_simp
  with_reducible rfl
 rotate_left
 ·simp only [Act.put, List.setIfInBounds_toArray, List.set_cons_zero, List.set_cons_succ, i64_w, i32_w]
  rfl
 refine pure_ (i := 9) (N := some 36) (v := ?_) (a' := ?_) #[true, true, true, true, true, true, true, true, true, true, false, false] rfl rfl (any_of HT_.out (by kernel_rfl)) (fun _ _ _ h => h) (Or.inl ⟨by rfl, ?_⟩) ?_ ?_
 rotate_left
 ·intro w'
  go_simp
  with_reducible rfl
 rotate_left
 ·simp only [Act.put, List.setIfInBounds_toArray, List.set_cons_zero, List.set_cons_succ, i64_w, i32_w]
  rfl
 refine pure_ (i := 10) (N := some 8) (v := ?_) (a' := ?_) #[true, true, true, true, true, true, true, true, true, true, true, false] rfl rfl (any_of HT_.out (by kernel_rfl)) (fun _ _ _ h => h) (Or.inl ⟨by rfl, ?_⟩) ?_ ?_
 rotate_left
 ·intro w'
  go_simp
  with_reducible rfl
 rotate_left
 ·simp only [Act.put, List.setIfInBounds_toArray, List.set_cons_zero, List.set_cons_succ, i64_w, i32_w]
  rfl
 refine pure_ (i := 11) (N := some 9) (v := ?_) (a' := ?_) #[true, true, true, true, true, true, true, true, true, true, true, true] rfl rfl (any_of HT_.out (by kernel_rfl)) (fun _ _ _ h => h) (Or.inl ⟨by rfl, ?_⟩) ?_ ?_
 rotate_left
 ·intro w'
  go_simp
  with_reducible rfl
 rotate_left
 ·simp only [Act.put, List.setIfInBounds_toArray, List.set_cons_zero, List.set_cons_succ, i64_w, i32_w]
  rfl
 refine done_ (done_of HT_.out (by kernel_rfl)) ?_
 have hcz35_0 : w34.cell? ⟨gb888, 0, none⟩ = some (.int .i64 a0_0) := (blk_cell BK888.out 0).trans rfl
 have hcz35_1 : w34.cell? ⟨gb888, 1, none⟩ = some (.int .i64 a0_1) := (blk_cell BK888.out 1).trans rfl
 have hcz35_2 : w34.cell? ⟨gb888, 2, none⟩ = some (.slice A0_2 l0_2.length c0_2) := (blk_cell BK888.out 2).trans rfl
 have hfz35_0 := blk_frozen BK888.out 0
 have hfz35_1 := blk_frozen BK888.out 1
 have hfz35_2 := blk_frozen BK888.out 2
 try go_wp2_with (first | ((with_reducible refine gate_callee (f := 17) rfl ?_); refine goesL_ (some 38) rfl rfl Try.func17 (by kernel_rfl) rfl #[.agg #[.int .i64 a0_0, .int .i64 a0_1, .slice A0_2 l0_2.length c0_2]] rfl zal3 ?_; (with_reducible refine (laws_toBoard.calls k a0_0 a0_1 _ _ l0_2 t905 t906 t907 _ ?side1 ?side2 A18.out).mono ?_); (case side1 => exact zal13); (case side2 => exact HC0_2.out); rintro e w36 ⟨v908, rfl, ho0, hb⟩; refine ⟨_, rfl, ?_⟩; have n0_ := Aside0.mk (Kd.R_elder' zal16 (Kd.R_base ho0) hb); have n1_ := Aside0.mk (Kd.R_elder' zal18 (Kd.R_base ho0) hb); have n2_ := Aside0.mk (Kd.R_elder' zal20 (Kd.R_base ho0) hb); have n3_ := Aside0.mk (Kd.R_lower (Kd.R_new' (Kd.R_new' (Kd.R_new' ho0 (Kd.R_lt zal16)) (Kd.R_lt zal18)) (Kd.R_lt zal20)) (below_size zal6)); have n4_ := Aside0.mk (blk_below (g := gb888) (o := .cells #[.int .i64 a0_0, .int .i64 a0_1, .slice A0_2 l0_2.length c0_2] 24 (0, 0)) zal2 hb); have n5_ := Aside0.mk (blk_below (g := gb889) (o := .cells #[.int .i64 a1_0, .int .i64 a1_1] 26 (0, 0)) zal4 hb); have n6_ := Aside0.mk (below_step zal6 hb); clear HO895; clear HO900; clear HO903; clear BK888; clear BK889; clear HB; have HO895 := n0_; have HO900 := n1_; have HO903 := n2_; have HO909 := n3_; have BK888 := n4_; have BK889 := n5_; have HB := n6_; clear n0_ n1_ n2_ n3_ n4_ n5_ n6_; (try clear hb); (try clear hb2); (try clear hk); (try clear hi); (try clear ho0); (try clear hna_); (try clear hnb_)) | ((with_reducible refine gate_dst (N := 10) rfl ?_); refine box_event ?hg (N := 10) ?hd (cs := #[.int .i64 0, .int .i64 0, .slice none 0 0]) (t := 30) ?hr ?_; (case hd => rfl); (case hg => rfl); (case hr => first | (go_simp; done) | (go_simp; rfl)); intro gb910 hg w37 hbox hb; have n0_ := Aside0.mk (Kd.R_below zal16 hb); have n1_ := Aside0.mk (Kd.R_below zal18 hb); have n2_ := Aside0.mk (Kd.R_below zal20 hb); have n3_ := Aside0.mk (Kd.R_below zal31 hb); have n4_ := Aside0.mk (blk_below (g := gb888) (o := .cells #[.int .i64 a0_0, .int .i64 a0_1, .slice A0_2 l0_2.length c0_2] 24 (0, 0)) zal2 hb); have n5_ := Aside0.mk (blk_below (g := gb889) (o := .cells #[.int .i64 a1_0, .int .i64 a1_1] 26 (0, 0)) zal4 hb); have n6_ := Aside0.mk (below_step zal6 hb); have n7_ := Aside0.mk (hbox); have n8_ := Aside0.mk ((by rw [hg]; exact (below_size zal6) : w.heap.size ≤ gb910)); have n9_ := Aside0.mk ((by rw [hg]; exact (below_size zal6) : w.heap.size ≤ gb910)); have n10_ := Aside0.mk ((zal52 : gb888 ≠ gb910)); have n11_ := Aside0.mk ((zal53 : gb910 ≠ gb888)); have n12_ := Aside0.mk ((by rw [hg]; exact Nat.ne_of_lt (blk_lt (g := gb889) (o := .cells #[.int .i64 a1_0, .int .i64 a1_1] 26 (0, 0)) zal4) : gb889 ≠ gb910)); have n13_ := Aside0.mk ((by rw [hg]; exact Nat.ne_of_gt (blk_lt (g := gb889) (o := .cells #[.int .i64 a1_0, .int .i64 a1_1] 26 (0, 0)) zal4) : gb910 ≠ gb889)); clear HO895; clear HO900; clear HO903; clear HO909; clear BK888; clear BK889; clear HB; have HO895 := n0_; have HO900 := n1_; have HO903 := n2_; have HO909 := n3_; have BK888 := n4_; have BK889 := n5_; have HB := n6_; have BK910 := n7_; have GW910 := n8_; have GE910 := n9_; have NB888_910 := n10_; have NB910_888 := n11_; have NB889_910 := n12_; have NB910_889 := n13_; clear n0_ n1_ n2_ n3_ n4_ n5_ n6_ n7_ n8_ n9_ n10_ n11_ n12_ n13_; clear hb hbox hg; have hnb38 := NB910_888.out; have hnc38 := NB888_910.out; have hnb39 := NB910_889.out; have hnc39 := NB889_910.out; have hcz40_0 : w37.cell? ⟨gb910, 0, none⟩ = some (.int .i64 0) := (blk_cell BK910.out 0).trans rfl; have hcz40_1 : w37.cell? ⟨gb910, 1, none⟩ = some (.int .i64 0) := (blk_cell BK910.out 1).trans rfl; have hcz40_2 : w37.cell? ⟨gb910, 2, none⟩ = some (.slice none 0 0) := (blk_cell BK910.out 2).trans rfl; have hfz40_0 := blk_frozen BK910.out 0; have hfz40_1 := blk_frozen BK910.out 1; have hfz40_2 := blk_frozen BK910.out 2; obtain ⟨Ao41, co41, eo41⟩ := Kd.R_slice HO909.out; subst eo41) | ((with_reducible refine gate_callee (f := 19) rfl ?_); refine goesL_ (some 40) rfl rfl Try.func19 (by kernel_rfl) rfl #[.slice A2 l2.length c2] rfl zal3 ?_; (with_reducible refine (laws_toIntS.calls k _ _ l2 t911 _ ?side1 ?side2 A19.out).mono ?_); (case side1 => exact Kd.C_below HR2.out zal1); (case side2 => exact HC2.out); rintro e w42 ⟨v912, rfl, ho0, hb⟩; refine ⟨_, rfl, ?_⟩; have n0_ := Aside0.mk (Kd.R_elder' zal27 (Kd.R_base ho0) hb); have n1_ := Aside0.mk (Kd.R_elder' zal26 (Kd.R_base ho0) hb); have n2_ := Aside0.mk (Kd.R_elder' zal25 (Kd.R_base ho0) hb); have n3_ := Aside0.mk (Kd.R_elder' zal24 (Kd.R_base ho0) hb); have n4_ := Aside0.mk (Kd.R_lower (Kd.R_new' (Kd.R_new' (Kd.R_new' (Kd.R_new' ho0 (Kd.R_lt zal27)) (Kd.R_lt zal26)) (Kd.R_lt zal25)) (Kd.R_lt zal24)) (below_size zal1)); have n5_ := Aside0.mk (blk_below (g := gb888) (o := .cells #[.int .i64 a0_0, .int .i64 a0_1, .slice A0_2 l0_2.length c0_2] 24 (0, 0)) (by (with_reducible repeat (first | refine blk_drewN ?_ _ | refine blk_drew ?_ | refine blk_alloc ?_ _)); refine blk_far ?_ NB888_910.out _; (with_reducible repeat (first | refine blk_drewN ?_ _ | refine blk_drew ?_ | refine blk_alloc ?_ _)); refine blk_far ?_ NB888_910.out _; (with_reducible repeat (first | refine blk_drewN ?_ _ | refine blk_drew ?_ | refine blk_alloc ?_ _)); refine blk_far ?_ NB888_910.out _; (with_reducible repeat (first | refine blk_drewN ?_ _ | refine blk_drew ?_ | refine blk_alloc ?_ _)); exact BK888.out) hb); have n6_ := Aside0.mk (blk_below (g := gb889) (o := .cells #[.int .i64 a1_0, .int .i64 a1_1] 26 (0, 0)) (by (with_reducible repeat (first | refine blk_drewN ?_ _ | refine blk_drew ?_ | refine blk_alloc ?_ _)); refine blk_far ?_ NB889_910.out _; (with_reducible repeat (first | refine blk_drewN ?_ _ | refine blk_drew ?_ | refine blk_alloc ?_ _)); refine blk_far ?_ NB889_910.out _; (with_reducible repeat (first | refine blk_drewN ?_ _ | refine blk_drew ?_ | refine blk_alloc ?_ _)); refine blk_far ?_ NB889_910.out _; (with_reducible repeat (first | refine blk_drewN ?_ _ | refine blk_drew ?_ | refine blk_alloc ?_ _)); exact BK889.out) hb); have n7_ := Aside0.mk (blk_below (g := gb910) (o := .cells #[.int .i64 t905, .int .i64 t906, .slice Ao41 t907.length co41] 30 (0, 0)) (by (with_reducible repeat (first | refine blk_drewN ?_ _ | refine blk_drew ?_ | refine blk_alloc ?_ _)); refine blk_put (cs := #[.int .i64 t905, .int .i64 t906, .slice none 0 0]) ?_ 2 _ rfl; (with_reducible repeat (first | refine blk_drewN ?_ _ | refine blk_drew ?_ | refine blk_alloc ?_ _)); refine blk_put (cs := #[.int .i64 t905, .int .i64 0, .slice none 0 0]) ?_ 1 _ rfl; (with_reducible repeat (first | refine blk_drewN ?_ _ | refine blk_drew ?_ | refine blk_alloc ?_ _)); refine blk_put (cs := #[.int .i64 0, .int .i64 0, .slice none 0 0]) ?_ 0 _ rfl; (with_reducible repeat (first | refine blk_drewN ?_ _ | refine blk_drew ?_ | refine blk_alloc ?_ _)); exact BK910.out) hb); have n8_ := Aside0.mk (below_step zal1 hb); clear HO895; clear HO900; clear HO903; clear HO909; clear BK888; clear BK889; clear BK910; clear HB; have HO895 := n0_; have HO900 := n1_; have HO903 := n2_; have HO909 := n3_; have HO913 := n4_; have BK888 := n5_; have BK889 := n6_; have BK910 := n7_; have HB := n8_; clear n0_ n1_ n2_ n3_ n4_ n5_ n6_ n7_ n8_; (try clear hb); (try clear hb2); (try clear hk); (try clear hi); (try clear ho0); (try clear hna_); (try clear hnb_)))
 have n0_ := Aside0.mk (Kd.R_drew HO895.out)
 have n1_ := Aside0.mk (Kd.R_drew HO900.out)
 have n2_ := Aside0.mk (Kd.R_drew HO903.out)
 have n3_ := Aside0.mk (Kd.R_drew HO909.out)
 have n4_ := Aside0.mk (Kd.R_drew HO913.out)
 have n5_ := Aside0.mk (blk_drew BK888.out)
 have n6_ := Aside0.mk (blk_drew BK889.out)
 have n7_ := Aside0.mk (blk_drew BK910.out)
 have n8_ := Aside0.mk (below_drew1 HB.out)
 clear HO895
 clear HO900
 clear HO903
 clear HO909
 clear HO913
 clear BK888
 clear BK889
 clear BK910
 clear HB
 have HO895 := n0_
 have HO900 := n1_
 have HO903 := n2_
 have HO909 := n3_
 have HO913 := n4_
 have BK888 := n5_
 have BK889 := n6_
 have BK910 := n7_
 have HB := n8_
 clear n0_ n1_ n2_ n3_ n4_ n5_ n6_ n7_ n8_
 refine start_ (n := 10) (S := fun w' => w'.cell? ⟨gb910, 0, none⟩ = some (.int .i64 t905) ∧ w'.cell? ⟨gb910, 1, none⟩ = some (.int .i64 t906) ∧ w'.cell? ⟨gb910, 2, none⟩ = some (.slice Ao41 t907.length co41) ∧ w'.cell? ⟨gb889, 0, none⟩ = some (.int .i64 a1_0) ∧ w'.cell? ⟨gb889, 1, none⟩ = some (.int .i64 a1_1)) (ds := []) #[false, false, false, false, false, false, false, false, false, false] (by kernel_rfl) rfl rfl ⟨(blk_cell BK910.out 0).trans rfl, (blk_cell BK910.out 1).trans rfl, (blk_cell BK910.out 2).trans rfl, (blk_cell BK889.out 0).trans rfl, (blk_cell BK889.out 1).trans rfl⟩ (fun hHeld => ?_); refine with_tabW laws_FnExactGuardedBy.tab10 laws_FnExactGuardedBy.bits10 (fun HT_ HW_ => ?_)
 generalize w42.drew = w43 at HO895 HO900 HO903 HO909 HO913 BK888 BK889 BK910 HB hHeld ⊢
 refine pure_ (i := 3) (N := some 45) (v := ?_) (a' := ?_) #[false, false, false, true, false, false, false, false, false, false] rfl rfl (any_of HT_.out (by kernel_rfl)) (fun _ _ _ h => h) (Or.inl ⟨by rfl, ?_⟩) ?_ ?_
 rotate_left
 ·intro w'
  go_simp
  with_reducible rfl
 rotate_left
 ·simp only [Act.put, List.setIfInBounds_toArray, List.set_cons_zero, List.set_cons_succ, i64_w, i32_w]
  rfl
 refine take_ (i := 0) (N := some 42) (v := ?_) (a' := ?_) #[true, false, false, true, false, false, false, false, false, false] rfl rfl (take_ofW HT_.out HW_.out (by kernel_rfl)) (fun _ _ _ h => h) (Or.inl ⟨by rfl, ?_⟩) hHeld ?_ ?_
 rotate_left
 ·rintro w' ⟨s0, s1, s2, s3, s4⟩
  go_simp
  with_reducible rfl
 rotate_left
 ·simp only [Act.put, List.setIfInBounds_toArray, List.set_cons_zero, List.set_cons_succ, i64_w, i32_w]
  rfl
 refine take_ (i := 1) (N := some 43) (v := ?_) (a' := ?_) #[true, true, false, true, false, false, false, false, false, false] rfl rfl (take_ofW HT_.out HW_.out (by kernel_rfl)) (fun _ _ _ h => h) (Or.inl ⟨by rfl, ?_⟩) hHeld ?_ ?_
 rotate_left
 ·rintro w' ⟨s0, s1, s2, s3, s4⟩
  go_simp
  with_reducible rfl
 rotate_left
 ·simp only [Act.put, List.setIfInBounds_toArray, List.set_cons_zero, List.set_cons_succ, i64_w, i32_w]
  rfl
 refine one_ (i := 2) (N := some 44) #[true, true, true, true, false, false, false, false, false, false] rfl rfl (one_of HT_.out (by kernel_rfl)) (by decide) (fun K hK => ?_)
 refine goes_ Try.func18 (by kernel_rfl) rfl #[.agg #[.int .i64 a1_0, .int .i64 a1_1]] (by rfl) rfl rfl zal3 ?_
 with_reducible refine (laws_toLeaper.calls a1_0 a1_1 t914 t915 _ A20.out).mono ?_
 rintro e w44 ⟨rfl, hb⟩
 refine ⟨_, rfl, ?_⟩
 have n0_ := Aside0.mk (Kd.R_below zal16 hb)
 have n1_ := Aside0.mk (Kd.R_below zal18 hb)
 have n2_ := Aside0.mk (Kd.R_below zal20 hb)
 have n3_ := Aside0.mk (Kd.R_below zal31 hb)
 have n4_ := Aside0.mk (Kd.R_below zal36 hb)
 have n5_ := Aside0.mk (blk_below (g := gb888) (o := .cells #[.int .i64 a0_0, .int .i64 a0_1, .slice A0_2 l0_2.length c0_2] 24 (0, 0)) zal2 hb)
 have n6_ := Aside0.mk (blk_below (g := gb889) (o := .cells #[.int .i64 a1_0, .int .i64 a1_1] 26 (0, 0)) zal4 hb)
 have n7_ := Aside0.mk (blk_below (g := gb910) (o := .cells #[.int .i64 t905, .int .i64 t906, .slice Ao41 t907.length co41] 30 (0, 0)) zal7 hb)
 have n8_ := Aside0.mk (below_step zal1 hb)
 clear HO895
 clear HO900
 clear HO903
 clear HO909
 clear HO913
 clear BK888
 clear BK889
 clear BK910
 clear HB
 have HO895 := n0_
 have HO900 := n1_
 have HO903 := n2_
 have HO909 := n3_
 have HO913 := n4_
 have BK888 := n5_
 have BK889 := n6_
 have BK910 := n7_
 have HB := n8_
 clear n0_ n1_ n2_ n3_ n4_ n5_ n6_ n7_ n8_
 (try clear hb)
 (try clear hb2)
 (try clear hk)
 (try clear hi)
 (try clear hna_)
 (try clear hnb_)
 obtain ⟨Ao45, co45, eo45⟩ := Kd.R_slice HO913.out
 (first | subst eo45 | (injection eo45 with f1_ f2_ f3_; have f4_ := f1_.symm; have f5_ := f3_.symm; clear f1_ f2_ f3_; subst f4_; subst f5_))
 refine hK.out _ _ ⟨(blk_cell BK910.out 0).trans rfl, (blk_cell BK910.out 1).trans rfl, (blk_cell BK910.out 2).trans rfl, (blk_cell BK889.out 0).trans rfl, (blk_cell BK889.out 1).trans rfl⟩ (fun hHeld => ?_)
 clear hK K
 refine norm_ (a' := ?_) ?_ ?_
 rotate_left
 ·show Act.put _ (some 44) _ = _
  simp only [Act.put, List.setIfInBounds_toArray, List.set_cons_zero, List.set_cons_succ, i64_w, i32_w]
  rfl
 refine one_ (i := 4) (N := some 46) #[true, true, true, true, true, false, false, false, false, false] rfl rfl (one_of HT_.out (by kernel_rfl)) (by decide) (fun K hK => ?_)
 refine goes_ Try.func39 (by kernel_rfl) rfl #[.agg #[.int .i64 t905, .int .i64 t906, .slice Ao41 t907.length co41], .agg #[.int .i64 t914, .int .i64 t915], .slice Ao45 t911.length co45] (by rfl) rfl rfl zal3 ?_
 with_reducible refine (impl_GuardedBy.calls k t905 t906 _ _ t907 t914 t915 _ _ t911 t916 t919 _ ?side1 ?side2 ?side3 ?side4 A21.out).mono ?_
 (case side1 => repeat (first | exact (Kd.R_reads' HO909.out).2.2 | (with_reducible refine Kd.C_alloc ?_ _) | (with_reducible refine Kd.C_drewN ?_ _) | (with_reducible refine Kd.C_drew ?_)))
 (case side2 => exact (Kd.R_reads' HO909.out).2.1)
 (case side3 => repeat (first | exact (Kd.R_reads' HO913.out).2.2 | (with_reducible refine Kd.C_alloc ?_ _) | (with_reducible refine Kd.C_drewN ?_ _) | (with_reducible refine Kd.C_drew ?_)))
 (case side4 => exact (Kd.R_reads' HO913.out).2.1)
 rintro e w46 ⟨v917, rfl, ho0, hb⟩
 refine ⟨_, rfl, ?_⟩
 have n0_ := Aside0.mk (Kd.R_elder' zal16 (Kd.R_base ho0) hb)
 have n1_ := Aside0.mk (Kd.R_elder' zal18 (Kd.R_base ho0) hb)
 have n2_ := Aside0.mk (Kd.R_elder' zal20 (Kd.R_base ho0) hb)
 have n3_ := Aside0.mk (Kd.R_elder' zal31 (Kd.R_base ho0) hb)
 have n4_ := Aside0.mk (Kd.R_elder' zal36 (Kd.R_base ho0) hb)
 have n5_ := Aside0.mk (Kd.R_lower (Kd.R_new' (Kd.R_new' (Kd.R_new' (Kd.R_new' (Kd.R_new' ho0 (Kd.R_lt zal16)) (Kd.R_lt zal18)) (Kd.R_lt zal20)) (Kd.R_lt zal31)) (Kd.R_lt zal36)) (below_size zal1))
 have n6_ := Aside0.mk (blk_below (g := gb888) (o := .cells #[.int .i64 a0_0, .int .i64 a0_1, .slice A0_2 l0_2.length c0_2] 24 (0, 0)) zal2 hb)
 have n7_ := Aside0.mk (blk_below (g := gb889) (o := .cells #[.int .i64 a1_0, .int .i64 a1_1] 26 (0, 0)) zal4 hb)
 have n8_ := Aside0.mk (blk_below (g := gb910) (o := .cells #[.int .i64 t905, .int .i64 t906, .slice Ao41 t907.length co41] 30 (0, 0)) zal7 hb)
 have n9_ := Aside0.mk (below_step zal1 hb)
 clear HO895
 clear HO900
 clear HO903
 clear HO909
 clear HO913
 clear BK888
 clear BK889
 clear BK910
 clear HB
 have HO895 := n0_
 have HO900 := n1_
 have HO903 := n2_
 have HO909 := n3_
 have HO913 := n4_
 have HO918 := n5_
 have BK888 := n6_
 have BK889 := n7_
 have BK910 := n8_
 have HB := n9_
 clear n0_ n1_ n2_ n3_ n4_ n5_ n6_ n7_ n8_ n9_
 (try clear hb)
 (try clear hb2)
 (try clear hk)
 (try clear hi)
 (try clear ho0)
 (try clear hna_)
 (try clear hnb_)
 refine hK.out _ _ ⟨(blk_cell BK910.out 0).trans rfl, (blk_cell BK910.out 1).trans rfl, (blk_cell BK910.out 2).trans rfl, (blk_cell BK889.out 0).trans rfl, (blk_cell BK889.out 1).trans rfl⟩ (fun hHeld => ?_)
 clear hK K
 refine norm_ (a' := ?_) ?_ ?_
 rotate_left
 ·show Act.put _ (some 46) _ = _
  simp only [Act.put, List.setIfInBounds_toArray, List.set_cons_zero, List.set_cons_succ, i64_w, i32_w]
  rfl
 refine pure_ (i := 5) (N := some 41) (v := ?_) (a' := ?_) #[true, true, true, true, true, true, false, false, false, false] rfl rfl (any_of HT_.out (by kernel_rfl)) (fun _ _ _ h => h) (Or.inl ⟨by rfl, ?_⟩) ?_ ?_
 rotate_left
 ·intro w'
  go_simp
  with_reducible rfl
 rotate_left
 ·simp only [Act.put, List.setIfInBounds_toArray, List.set_cons_zero, List.set_cons_succ, i64_w, i32_w]
  rfl
 refine pure_ (i := 6) (N := some 47) (v := ?_) (a' := ?_) #[true, true, true, true, true, true, true, false, false, false] rfl rfl (any_of HT_.out (by kernel_rfl)) (fun _ _ _ h => h) (Or.inl ⟨by rfl, ?_⟩) ?_ ?_
 rotate_left
 ·intro w'
  go_simp
  with_reducible rfl
 rotate_left
 ·simp only [Act.put, List.setIfInBounds_toArray, List.set_cons_zero, List.set_cons_succ, i64_w, i32_w]
  rfl
 refine pure_ (i := 7) (N := some 48) (v := ?_) (a' := ?_) #[true, true, true, true, true, true, true, true, false, false] rfl rfl (any_of HT_.out (by kernel_rfl)) (fun _ _ _ h => h) (Or.inl ⟨by rfl, ?_⟩) ?_ ?_
 rotate_left
 ·intro w'
  go_simp
  with_reducible rfl
 rotate_left
 ·simp only [Act.put, List.setIfInBounds_toArray, List.set_cons_zero, List.set_cons_succ, i64_w, i32_w]
  rfl
 refine pure_ (i := 8) (N := some 12) (v := ?_) (a' := ?_) #[true, true, true, true, true, true, true, true, true, false] rfl rfl (any_of HT_.out (by kernel_rfl)) (fun _ _ _ h => h) (Or.inl ⟨by rfl, ?_⟩) ?_ ?_
 rotate_left
 ·intro w'
  go_simp
  with_reducible rfl
 rotate_left
 ·simp only [Act.put, List.setIfInBounds_toArray, List.set_cons_zero, List.set_cons_succ, i64_w, i32_w]
  rfl
 refine pure_ (i := 9) (N := some 13) (v := ?_) (a' := ?_) #[true, true, true, true, true, true, true, true, true, true] rfl rfl (any_of HT_.out (by kernel_rfl)) (fun _ _ _ h => h) (Or.inl ⟨by rfl, ?_⟩) ?_ ?_
 rotate_left
 ·intro w'
  go_simp
  with_reducible rfl
 rotate_left
 ·simp only [Act.put, List.setIfInBounds_toArray, List.set_cons_zero, List.set_cons_succ, i64_w, i32_w]
  rfl
 refine done_ (done_of HT_.out (by kernel_rfl)) ?_
 go_upto_region 11 with (fail)
 go_cut [57] (fun v57 wc => ∃ (kq : Nat) (x57_21 : Bool), v57 = .bool x57_21 ∧ Aside0 (laws_FnExactGuardedBy.j0 kq l2 t901 t904 t911 t916 t919 x57_21 a0_0 a0_1 l0_2 a1_0 a1_1 t905 t906 t907 = some r) ∧ Aside0 (kq ≤ k) ∧ Aside0 (Kd.R (Kd.int .i64) 3 wc w.heap.size (fun k_ => some k_ ≠ ((.slice Ao45 t911.length co45) : Value).ownBlock ∧ some k_ ≠ (v917 : Value).ownBlock ∧ some k_ ≠ ((.slice Ao41 t907.length co41) : Value).ownBlock) v902 t901) ∧ Aside0 (Kd.R (Kd.int .i64) 3 wc w.heap.size (fun k_ => some k_ ≠ (v902 : Value).ownBlock ∧ some k_ ≠ (v917 : Value).ownBlock ∧ some k_ ≠ ((.slice Ao41 t907.length co41) : Value).ownBlock) (.slice Ao45 t911.length co45) t911) ∧ Aside0 (Kd.R (Kd.int .i64) 3 wc w.heap.size (fun k_ => some k_ ≠ (v902 : Value).ownBlock ∧ some k_ ≠ ((.slice Ao45 t911.length co45) : Value).ownBlock ∧ some k_ ≠ ((.slice Ao41 t907.length co41) : Value).ownBlock) v917 t916) ∧ Aside0 (Kd.R (Kd.int .i64) 3 wc w.heap.size (fun k_ => some k_ ≠ (v902 : Value).ownBlock ∧ some k_ ≠ ((.slice Ao45 t911.length co45) : Value).ownBlock ∧ some k_ ≠ (v917 : Value).ownBlock) (.slice Ao41 t907.length co41) t907) ∧ Aside0 (wc.heap[gb888]? = some (.cells #[.int .i64 a0_0, .int .i64 a0_1, (.slice A0_2 l0_2.length c0_2)] 24 (0, 0))) ∧ Aside0 (wc.heap[gb889]? = some (.cells #[.int .i64 a1_0, .int .i64 a1_1] 26 (0, 0))) ∧ Aside0 (wc.heap[gb910]? = some (.cells #[.int .i64 t905, .int .i64 t906, (.slice Ao41 t907.length co41)] 30 (0, 0))) ∧ Aside0 (Below w.heap.size w wc))
 case first =>
  have H := HC22.out
  clear HC22
  replace H := Option.bind_eq_some_iff.mp H
  obtain ⟨t920, A470, H⟩ := H
  replace H : (if t920 = true then (laws_FnExactGuardedBy.j0 k l2 t901 t904 t911 t916 t919 (t919 != t904) a0_0 a0_1 l0_2 a1_0 a1_1 t905 t906 t907) else (laws_FnExactGuardedBy.j0 k l2 t901 t904 t911 t916 t919 true a0_0 a0_1 l0_2 a1_0 a1_1 t905 t906 t907)) = some r := H
  have A47 := Aside0.mk A470
  clear A470
  by_cases c48 : t920 = true
  ·subst c48
   have H1 : (laws_FnExactGuardedBy.j0 k l2 t901 t904 t911 t916 t919 (t919 != t904) a0_0 a0_1 l0_2 a1_0 a1_1 t905 t906 t907) = some r := by rw [if_pos rfl] at H; exact H
   clear H
   have H := H1
   clear H1
   have H' := Aside0.mk H
   clear H
   obtain ⟨Ao49, co49, eo49⟩ := Kd.R_slice HO918.out
   subst eo49
   obtain ⟨Ao50, co50, eo50⟩ := Kd.R_slice HO903.out
   subst eo50
   go_wp2_with (first | ((with_reducible refine gate_callee (f := 22) rfl ?_); refine goesL_ (some 51) rfl rfl Try.func22 (by kernel_rfl) rfl #[.slice Ao49 t916.length co49, .slice Ao50 t901.length co50] rfl zal3 ?_; (with_reducible refine (laws_eqIntS.calls k _ _ t916 _ _ t901 true _ ?side1 ?side2 ?side3 ?side4 A47.out).mono ?_); (case side1 => exact zal47); (case side2 => exact (Kd.R_reads' HO918.out).2.1); (case side3 => exact zal48); (case side4 => exact (Kd.R_reads' HO903.out).2.1); rintro e w' ⟨rfl, ⟨nd, rfl⟩⟩; refine ⟨_, rfl, ?_⟩))
   go_meet
   case rel => exact ⟨_, ((t919 != t904)), zal35, H', ⟨by first | omega | exact Nat.le_refl _⟩, ⟨zal43⟩, ⟨zal41⟩, ⟨zal40⟩, ⟨zal42⟩, ⟨zal2⟩, ⟨zal4⟩, ⟨zal7⟩, ⟨zal1⟩⟩
  replace c48 := Bool.eq_false_iff.mpr c48
  subst c48
  have H1 : (laws_FnExactGuardedBy.j0 k l2 t901 t904 t911 t916 t919 true a0_0 a0_1 l0_2 a1_0 a1_1 t905 t906 t907) = some r := by rw [if_neg (show ¬ (false = true) by decide)] at H; exact H
  clear H
  have H := H1
  clear H1
  have H' := Aside0.mk H
  clear H
  obtain ⟨Ao51, co51, eo51⟩ := Kd.R_slice HO918.out
  subst eo51
  obtain ⟨Ao52, co52, eo52⟩ := Kd.R_slice HO903.out
  subst eo52
  go_wp2_with (first | ((with_reducible refine gate_callee (f := 22) rfl ?_); refine goesL_ (some 51) rfl rfl Try.func22 (by kernel_rfl) rfl #[.slice Ao51 t916.length co51, .slice Ao52 t901.length co52] rfl zal3 ?_; (with_reducible refine (laws_eqIntS.calls k _ _ t916 _ _ t901 false _ ?side1 ?side2 ?side3 ?side4 A47.out).mono ?_); (case side1 => exact zal47); (case side2 => exact (Kd.R_reads' HO918.out).2.1); (case side3 => exact zal48); (case side4 => exact (Kd.R_reads' HO903.out).2.1); rintro e w' ⟨rfl, ⟨nd, rfl⟩⟩; refine ⟨_, rfl, ?_⟩))
  go_meet
  case rel => exact ⟨_, (true), zal35, H', ⟨by first | omega | exact Nat.le_refl _⟩, ⟨zal43⟩, ⟨zal41⟩, ⟨zal40⟩, ⟨zal42⟩, ⟨zal2⟩, ⟨zal4⟩, ⟨zal7⟩, ⟨zal1⟩⟩
 case rest =>
  clear HC22
  try clear c1; try clear c2; try clear p2; try clear c3; try clear c4; try clear c4b0; try clear c4b1; try clear c8; try clear c8b0; try clear c10; try clear c11; try clear c15; try clear c17; try clear c18; try clear c19; try clear c22; try clear c25; try clear c38; try clear c39; try clear c48; try clear hcz12_0; try clear hcz12_1; try clear hcz12_2; try clear hcz26_0; try clear hcz26_1; try clear hcz26_2; try clear hcz35_0; try clear hcz35_1; try clear hcz35_2; try clear hcz40_0; try clear hcz40_1; try clear hcz40_2; try clear hfz12_0; try clear hfz12_1; try clear hfz12_2; try clear hfz26_0; try clear hfz26_1
  try clear hfz26_2; try clear hfz35_0; try clear hfz35_1; try clear hfz35_2; try clear hfz40_0; try clear hfz40_1; try clear hfz40_2
  obtain ⟨kq, x57_21, rfl, HA, HJ21, HO_8, HO_11, HO_12, HO_911002, BK888, BK889, BK910, HB⟩ := hcut
  cases kq with
  | zero => exact absurd HA.out (by simp [laws_FnExactGuardedBy.j0])
  | succ kj21 =>
   have H := HA.out
   clear HA
   simp only [laws_FnExactGuardedBy.j0] at H
   by_cases c53 : x57_21 = true
   ·subst c53
    have H1 : (some false) = some r := by rw [if_pos rfl] at H; exact H
    clear H
    have H := H1
    clear H1
    obtain rfl := Option.some.inj H
    go_wp2
    go_ret
    exact ⟨zal17, zal1⟩
   replace c53 := Bool.eq_false_iff.mpr c53
   subst c53
   have H1 : ((laws_toBoard.f kj21 a0_0 a0_1 l0_2).bind fun bt921 => ((laws_eqBoard.f kj21 t905 t906 t907 bt921.1 bt921.2.1 bt921.2.2).bind fun t926 => (if t926 = true then ((laws_toIntS.f kj21 l2).bind fun t927 => ((laws_eqIntS.f kj21 t911 t927).bind fun t930 => (if t930 = true then ((laws_markBoard.f kj21 t905 t906 t907 1).bind fun bt931 => ((laws_markIntS.f kj21 t911 bt931.1).bind fun bt933 => (if bt933.1 < 0 then (laws_FnExactGuardedBy.j1 kj21 l2 t901 t904 t916 true a0_0 a0_1 l0_2 a1_0 a1_1) else ((laws_eqIntS.f kj21 t916 t901).bind fun t935 => (if t935 = true then (laws_FnExactGuardedBy.j1 kj21 l2 t901 t904 t916 (t919 != t904) a0_0 a0_1 l0_2 a1_0 a1_1) else (laws_FnExactGuardedBy.j1 kj21 l2 t901 t904 t916 true a0_0 a0_1 l0_2 a1_0 a1_1)))))) else (some false)))) else (some false)))) = some r := by rw [if_neg (show ¬ (false = true) by decide)] at H; exact H
   clear H
   have H := H1
   clear H1
   replace H := Option.bind_eq_some_iff.mp H
   obtain ⟨⟨t921, t922, t923⟩, A540, H⟩ := H
   replace H : ((laws_eqBoard.f kj21 t905 t906 t907 t921 t922 t923).bind fun t926 => (if t926 = true then ((laws_toIntS.f kj21 l2).bind fun t927 => ((laws_eqIntS.f kj21 t911 t927).bind fun t930 => (if t930 = true then ((laws_markBoard.f kj21 t905 t906 t907 1).bind fun bt931 => ((laws_markIntS.f kj21 t911 bt931.1).bind fun bt933 => (if bt933.1 < 0 then (laws_FnExactGuardedBy.j1 kj21 l2 t901 t904 t916 true a0_0 a0_1 l0_2 a1_0 a1_1) else ((laws_eqIntS.f kj21 t916 t901).bind fun t935 => (if t935 = true then (laws_FnExactGuardedBy.j1 kj21 l2 t901 t904 t916 (t919 != t904) a0_0 a0_1 l0_2 a1_0 a1_1) else (laws_FnExactGuardedBy.j1 kj21 l2 t901 t904 t916 true a0_0 a0_1 l0_2 a1_0 a1_1)))))) else (some false)))) else (some false))) = some r := H
   have A54 := Aside0.mk A540
   clear A540
   replace H := Option.bind_eq_some_iff.mp H
   obtain ⟨t926, A550, H⟩ := H
   replace H : (if t926 = true then ((laws_toIntS.f kj21 l2).bind fun t927 => ((laws_eqIntS.f kj21 t911 t927).bind fun t930 => (if t930 = true then ((laws_markBoard.f kj21 t905 t906 t907 1).bind fun bt931 => ((laws_markIntS.f kj21 t911 bt931.1).bind fun bt933 => (if bt933.1 < 0 then (laws_FnExactGuardedBy.j1 kj21 l2 t901 t904 t916 true a0_0 a0_1 l0_2 a1_0 a1_1) else ((laws_eqIntS.f kj21 t916 t901).bind fun t935 => (if t935 = true then (laws_FnExactGuardedBy.j1 kj21 l2 t901 t904 t916 (t919 != t904) a0_0 a0_1 l0_2 a1_0 a1_1) else (laws_FnExactGuardedBy.j1 kj21 l2 t901 t904 t916 true a0_0 a0_1 l0_2 a1_0 a1_1)))))) else (some false)))) else (some false)) = some r := H
   have A55 := Aside0.mk A550
   clear A550
   by_cases c56 : t926 = true
   rotate_left
   ·replace c56 := Bool.eq_false_iff.mpr c56
    subst c56
    have H1 : (some false) = some r := by rw [if_neg (show ¬ (false = true) by decide)] at H; exact H
    clear H
    have H := H1
    clear H1
    obtain rfl := Option.some.inj H
    try go_wp2
    have n0_ := Aside0.mk (Kd.R_drew HO_8.out)
    have n1_ := Aside0.mk (Kd.R_drew HO_11.out)
    have n2_ := Aside0.mk (Kd.R_drew HO_12.out)
    have n3_ := Aside0.mk (Kd.R_drew HO_911002.out)
    have n4_ := Aside0.mk (blk_drew BK888.out)
    have n5_ := Aside0.mk (blk_drew BK889.out)
    have n6_ := Aside0.mk (blk_drew BK910.out)
    have n7_ := Aside0.mk (below_drew1 HB.out)
    clear HO_8
    clear HO_11
    clear HO_12
    clear HO_911002
    clear BK888
    clear BK889
    clear BK910
    clear HB
    have HO_8 := n0_
    have HO_11 := n1_
    have HO_12 := n2_
    have HO_911002 := n3_
    have BK888 := n4_
    have BK889 := n5_
    have BK910 := n6_
    have HB := n7_
    clear n0_ n1_ n2_ n3_ n4_ n5_ n6_ n7_
    refine start_ (n := 5) (S := fun w' => w'.cell? ⟨gb910, 0, none⟩ = some (.int .i64 t905) ∧ w'.cell? ⟨gb910, 1, none⟩ = some (.int .i64 t906) ∧ w'.cell? ⟨gb910, 2, none⟩ = some (.slice Ao41 t907.length co41) ∧ w'.cell? ⟨gb888, 0, none⟩ = some (.int .i64 a0_0) ∧ w'.cell? ⟨gb888, 1, none⟩ = some (.int .i64 a0_1) ∧ w'.cell? ⟨gb888, 2, none⟩ = some (.slice A0_2 l0_2.length c0_2)) (ds := []) #[false, false, false, false, false] (by kernel_rfl) rfl rfl ⟨(blk_cell BK910.out 0).trans rfl, (blk_cell BK910.out 1).trans rfl, (blk_cell BK910.out 2).trans rfl, (blk_cell BK888.out 0).trans rfl, (blk_cell BK888.out 1).trans rfl, (blk_cell BK888.out 2).trans rfl⟩ (fun hHeld => ?_)
    generalize wc.drew = w120 at HO_8 HO_11 HO_12 HO_911002 BK888 BK889 BK910 HB hHeld ⊢
    refine take_ (i := 0) (N := some 58) (v := ?_) (a' := ?_) #[true, false, false, false, false] rfl rfl (by kernel_rfl) (fun _ _ _ h => h) (Or.inl ⟨by rfl, ?_⟩) hHeld ?_ ?_
    rotate_left
    ·rintro w' ⟨s0, s1, s2, s3, s4, s5⟩
     go_simp
     with_reducible rfl
    rotate_left
    ·simp only [Act.put, List.setIfInBounds_toArray, List.set_cons_zero, List.set_cons_succ, i64_w, i32_w]
     rfl
    refine take_ (i := 1) (N := some 59) (v := ?_) (a' := ?_) #[true, true, false, false, false] rfl rfl (by kernel_rfl) (fun _ _ _ h => h) (Or.inl ⟨by rfl, ?_⟩) hHeld ?_ ?_
    rotate_left
    ·rintro w' ⟨s0, s1, s2, s3, s4, s5⟩
     go_simp
     with_reducible rfl
    rotate_left
    ·simp only [Act.put, List.setIfInBounds_toArray, List.set_cons_zero, List.set_cons_succ, i64_w, i32_w]
     rfl
    refine one_ (i := 2) (N := some 60) #[true, true, true, false, false] rfl rfl (by kernel_rfl) (by decide) (fun K hK => ?_)
    refine goes_ Try.func17 (by kernel_rfl) rfl #[.agg #[.int .i64 a0_0, .int .i64 a0_1, .slice A0_2 l0_2.length c0_2]] (by rfl) rfl rfl zal3 ?_
    with_reducible refine (laws_toBoard.calls kj21 a0_0 a0_1 _ _ l0_2 t921 t922 t923 _ ?side1 ?side2 A54.out).mono ?_
    (case side1 => exact zal13)
    (case side2 => exact HC0_2.out)
    rintro e w121 ⟨v924, rfl, ho0, hb⟩
    refine ⟨_, rfl, ?_⟩
    have n0_ := Aside0.mk (Kd.R_elder' zal10 (Kd.R_base ho0) hb)
    have n1_ := Aside0.mk (Kd.R_elder' zal12 (Kd.R_base ho0) hb)
    have n2_ := Aside0.mk (Kd.R_elder' zal9 (Kd.R_base ho0) hb)
    have n3_ := Aside0.mk (Kd.R_elder' zal8 (Kd.R_base ho0) hb)
    have n4_ := Aside0.mk (Kd.R_lower (Kd.R_new' (Kd.R_new' (Kd.R_new' (Kd.R_new' ho0 (Kd.R_lt zal10)) (Kd.R_lt zal12)) (Kd.R_lt zal9)) (Kd.R_lt zal8)) (below_size zal1))
    have n5_ := Aside0.mk (blk_below (g := gb888) (o := .cells #[.int .i64 a0_0, .int .i64 a0_1, .slice A0_2 l0_2.length c0_2] 24 (0, 0)) zal2 hb)
    have n6_ := Aside0.mk (blk_below (g := gb889) (o := .cells #[.int .i64 a1_0, .int .i64 a1_1] 26 (0, 0)) zal4 hb)
    have n7_ := Aside0.mk (blk_below (g := gb910) (o := .cells #[.int .i64 t905, .int .i64 t906, .slice Ao41 t907.length co41] 30 (0, 0)) zal7 hb)
    have n8_ := Aside0.mk (below_step zal1 hb)
    clear HO_8
    clear HO_11
    clear HO_12
    clear HO_911002
    clear BK888
    clear BK889
    clear BK910
    clear HB
    have HO_8 := n0_
    have HO_11 := n1_
    have HO_12 := n2_
    have HO_911002 := n3_
    have HO925 := n4_
    have BK888 := n5_
    have BK889 := n6_
    have BK910 := n7_
    have HB := n8_
    clear n0_ n1_ n2_ n3_ n4_ n5_ n6_ n7_ n8_
    (try clear hb)
    (try clear hb2)
    (try clear hk)
    (try clear hi)
    (try clear ho0)
    (try clear hna_)
    (try clear hnb_)
    obtain ⟨Ao122, co122, eo122⟩ := Kd.R_slice HO925.out
    (first | subst eo122 | (injection eo122 with f1_ f2_ f3_; have f4_ := f1_.symm; have f5_ := f3_.symm; clear f1_ f2_ f3_; subst f4_; subst f5_))
    refine hK.out _ _ ⟨(blk_cell BK910.out 0).trans rfl, (blk_cell BK910.out 1).trans rfl, (blk_cell BK910.out 2).trans rfl, (blk_cell BK888.out 0).trans rfl, (blk_cell BK888.out 1).trans rfl, (blk_cell BK888.out 2).trans rfl⟩ (fun hHeld => ?_)
    clear hK K
    refine norm_ (a' := ?_) ?_ ?_
    rotate_left
    ·show Act.put _ (some 60) _ = _
     simp only [Act.put, List.setIfInBounds_toArray, List.set_cons_zero, List.set_cons_succ, i64_w, i32_w]
     rfl
    refine one_ (i := 3) (N := some 61) #[true, true, true, true, false] rfl rfl (by kernel_rfl) (by decide) (fun K hK => ?_)
    refine goes_ Try.func21 (by kernel_rfl) rfl #[.agg #[.int .i64 t905, .int .i64 t906, .slice Ao41 t907.length co41], .agg #[.int .i64 t921, .int .i64 t922, .slice Ao122 t923.length co122]] (by rfl) rfl rfl zal3 ?_
    with_reducible refine (laws_eqBoard.calls kj21 t905 t906 _ _ t907 t921 t922 _ _ t923 false _ ?side1 ?side2 ?side3 ?side4 A55.out).mono ?_
    (case side1 => exact zal29)
    (case side2 => exact (Kd.R_reads' HO_911002.out).2.1)
    (case side3 => exact zal30)
    (case side4 => exact (Kd.R_reads' HO925.out).2.1)
    rintro e w123 ⟨rfl, hb⟩
    refine ⟨_, rfl, ?_⟩
    have n0_ := Aside0.mk (Kd.R_below zal10 hb)
    have n1_ := Aside0.mk (Kd.R_below zal12 hb)
    have n2_ := Aside0.mk (Kd.R_below zal9 hb)
    have n3_ := Aside0.mk (Kd.R_below zal8 hb)
    have n4_ := Aside0.mk (Kd.R_below zal19 hb)
    have n5_ := Aside0.mk (blk_below (g := gb888) (o := .cells #[.int .i64 a0_0, .int .i64 a0_1, .slice A0_2 l0_2.length c0_2] 24 (0, 0)) zal2 hb)
    have n6_ := Aside0.mk (blk_below (g := gb889) (o := .cells #[.int .i64 a1_0, .int .i64 a1_1] 26 (0, 0)) zal4 hb)
    have n7_ := Aside0.mk (blk_below (g := gb910) (o := .cells #[.int .i64 t905, .int .i64 t906, .slice Ao41 t907.length co41] 30 (0, 0)) zal7 hb)
    have n8_ := Aside0.mk (below_step zal1 hb)
    clear HO_8
    clear HO_11
    clear HO_12
    clear HO_911002
    clear HO925
    clear BK888
    clear BK889
    clear BK910
    clear HB
    have HO_8 := n0_
    have HO_11 := n1_
    have HO_12 := n2_
    have HO_911002 := n3_
    have HO925 := n4_
    have BK888 := n5_
    have BK889 := n6_
    have BK910 := n7_
    have HB := n8_
    clear n0_ n1_ n2_ n3_ n4_ n5_ n6_ n7_ n8_
    (try clear hb)
    (try clear hb2)
    (try clear hk)
    (try clear hi)
    (try clear hna_)
    (try clear hnb_)
    refine hK.out _ _ ⟨(blk_cell BK910.out 0).trans rfl, (blk_cell BK910.out 1).trans rfl, (blk_cell BK910.out 2).trans rfl, (blk_cell BK888.out 0).trans rfl, (blk_cell BK888.out 1).trans rfl, (blk_cell BK888.out 2).trans rfl⟩ (fun hHeld => ?_)
    clear hK K
    refine norm_ (a' := ?_) ?_ ?_
    rotate_left
    ·show Act.put _ (some 61) _ = _
     simp only [Act.put, List.setIfInBounds_toArray, List.set_cons_zero, List.set_cons_succ, i64_w, i32_w]
     rfl
    refine pure_ (i := 4) (N := some 62) (v := ?_) (a' := ?_) #[true, true, true, true, true] rfl rfl (by kernel_rfl) (fun _ _ _ h => h) (Or.inl ⟨by rfl, ?_⟩) ?_ ?_
    rotate_left
    ·intro w'
     go_simp
     with_reducible rfl
    rotate_left
    ·simp only [Act.put, List.setIfInBounds_toArray, List.set_cons_zero, List.set_cons_succ, i64_w, i32_w]
     rfl
    refine done_ (by kernel_rfl) ?_
    try go_wp2
    go_ret
    exact ⟨zal17, zal1⟩
   subst c56
   have H1 : ((laws_toIntS.f kj21 l2).bind fun t927 => ((laws_eqIntS.f kj21 t911 t927).bind fun t930 => (if t930 = true then ((laws_markBoard.f kj21 t905 t906 t907 1).bind fun bt931 => ((laws_markIntS.f kj21 t911 bt931.1).bind fun bt933 => (if bt933.1 < 0 then (laws_FnExactGuardedBy.j1 kj21 l2 t901 t904 t916 true a0_0 a0_1 l0_2 a1_0 a1_1) else ((laws_eqIntS.f kj21 t916 t901).bind fun t935 => (if t935 = true then (laws_FnExactGuardedBy.j1 kj21 l2 t901 t904 t916 (t919 != t904) a0_0 a0_1 l0_2 a1_0 a1_1) else (laws_FnExactGuardedBy.j1 kj21 l2 t901 t904 t916 true a0_0 a0_1 l0_2 a1_0 a1_1)))))) else (some false)))) = some r := by rw [if_pos rfl] at H; exact H
   clear H
   have H := H1
   clear H1
   replace H := Option.bind_eq_some_iff.mp H
   obtain ⟨t927, A570, H⟩ := H
   replace H : ((laws_eqIntS.f kj21 t911 t927).bind fun t930 => (if t930 = true then ((laws_markBoard.f kj21 t905 t906 t907 1).bind fun bt931 => ((laws_markIntS.f kj21 t911 bt931.1).bind fun bt933 => (if bt933.1 < 0 then (laws_FnExactGuardedBy.j1 kj21 l2 t901 t904 t916 true a0_0 a0_1 l0_2 a1_0 a1_1) else ((laws_eqIntS.f kj21 t916 t901).bind fun t935 => (if t935 = true then (laws_FnExactGuardedBy.j1 kj21 l2 t901 t904 t916 (t919 != t904) a0_0 a0_1 l0_2 a1_0 a1_1) else (laws_FnExactGuardedBy.j1 kj21 l2 t901 t904 t916 true a0_0 a0_1 l0_2 a1_0 a1_1)))))) else (some false))) = some r := H
   have A57 := Aside0.mk A570
   clear A570
   replace H := Option.bind_eq_some_iff.mp H
   obtain ⟨t930, A580, H⟩ := H
   replace H : (if t930 = true then ((laws_markBoard.f kj21 t905 t906 t907 1).bind fun bt931 => ((laws_markIntS.f kj21 t911 bt931.1).bind fun bt933 => (if bt933.1 < 0 then (laws_FnExactGuardedBy.j1 kj21 l2 t901 t904 t916 true a0_0 a0_1 l0_2 a1_0 a1_1) else ((laws_eqIntS.f kj21 t916 t901).bind fun t935 => (if t935 = true then (laws_FnExactGuardedBy.j1 kj21 l2 t901 t904 t916 (t919 != t904) a0_0 a0_1 l0_2 a1_0 a1_1) else (laws_FnExactGuardedBy.j1 kj21 l2 t901 t904 t916 true a0_0 a0_1 l0_2 a1_0 a1_1)))))) else (some false)) = some r := H
   have A58 := Aside0.mk A580
   clear A580
   by_cases c59 : t930 = true
   rotate_left
   ·replace c59 := Bool.eq_false_iff.mpr c59
    subst c59
    have H1 : (some false) = some r := by rw [if_neg (show ¬ (false = true) by decide)] at H; exact H
    clear H
    have H := H1
    clear H1
    obtain rfl := Option.some.inj H
    try go_wp2
    have n0_ := Aside0.mk (Kd.R_drew HO_8.out)
    have n1_ := Aside0.mk (Kd.R_drew HO_11.out)
    have n2_ := Aside0.mk (Kd.R_drew HO_12.out)
    have n3_ := Aside0.mk (Kd.R_drew HO_911002.out)
    have n4_ := Aside0.mk (blk_drew BK888.out)
    have n5_ := Aside0.mk (blk_drew BK889.out)
    have n6_ := Aside0.mk (blk_drew BK910.out)
    have n7_ := Aside0.mk (below_drew1 HB.out)
    clear HO_8
    clear HO_11
    clear HO_12
    clear HO_911002
    clear BK888
    clear BK889
    clear BK910
    clear HB
    have HO_8 := n0_
    have HO_11 := n1_
    have HO_12 := n2_
    have HO_911002 := n3_
    have BK888 := n4_
    have BK889 := n5_
    have BK910 := n6_
    have HB := n7_
    clear n0_ n1_ n2_ n3_ n4_ n5_ n6_ n7_
    refine start_ (n := 5) (S := fun w' => w'.cell? ⟨gb910, 0, none⟩ = some (.int .i64 t905) ∧ w'.cell? ⟨gb910, 1, none⟩ = some (.int .i64 t906) ∧ w'.cell? ⟨gb910, 2, none⟩ = some (.slice Ao41 t907.length co41) ∧ w'.cell? ⟨gb888, 0, none⟩ = some (.int .i64 a0_0) ∧ w'.cell? ⟨gb888, 1, none⟩ = some (.int .i64 a0_1) ∧ w'.cell? ⟨gb888, 2, none⟩ = some (.slice A0_2 l0_2.length c0_2)) (ds := []) #[false, false, false, false, false] (by kernel_rfl) rfl rfl ⟨(blk_cell BK910.out 0).trans rfl, (blk_cell BK910.out 1).trans rfl, (blk_cell BK910.out 2).trans rfl, (blk_cell BK888.out 0).trans rfl, (blk_cell BK888.out 1).trans rfl, (blk_cell BK888.out 2).trans rfl⟩ (fun hHeld => ?_)
    generalize wc.drew = w114 at HO_8 HO_11 HO_12 HO_911002 BK888 BK889 BK910 HB hHeld ⊢
    refine take_ (i := 0) (N := some 58) (v := ?_) (a' := ?_) #[true, false, false, false, false] rfl rfl (by kernel_rfl) (fun _ _ _ h => h) (Or.inl ⟨by rfl, ?_⟩) hHeld ?_ ?_
    rotate_left
    ·rintro w' ⟨s0, s1, s2, s3, s4, s5⟩
     go_simp
     with_reducible rfl
    rotate_left
    ·simp only [Act.put, List.setIfInBounds_toArray, List.set_cons_zero, List.set_cons_succ, i64_w, i32_w]
     rfl
    refine take_ (i := 1) (N := some 59) (v := ?_) (a' := ?_) #[true, true, false, false, false] rfl rfl (by kernel_rfl) (fun _ _ _ h => h) (Or.inl ⟨by rfl, ?_⟩) hHeld ?_ ?_
    rotate_left
    ·rintro w' ⟨s0, s1, s2, s3, s4, s5⟩
     go_simp
     with_reducible rfl
    rotate_left
    ·simp only [Act.put, List.setIfInBounds_toArray, List.set_cons_zero, List.set_cons_succ, i64_w, i32_w]
     rfl
    refine one_ (i := 2) (N := some 60) #[true, true, true, false, false] rfl rfl (by kernel_rfl) (by decide) (fun K hK => ?_)
    refine goes_ Try.func17 (by kernel_rfl) rfl #[.agg #[.int .i64 a0_0, .int .i64 a0_1, .slice A0_2 l0_2.length c0_2]] (by rfl) rfl rfl zal3 ?_
    with_reducible refine (laws_toBoard.calls kj21 a0_0 a0_1 _ _ l0_2 t921 t922 t923 _ ?side1 ?side2 A54.out).mono ?_
    (case side1 => exact zal13)
    (case side2 => exact HC0_2.out)
    rintro e w115 ⟨v924, rfl, ho0, hb⟩
    refine ⟨_, rfl, ?_⟩
    have n0_ := Aside0.mk (Kd.R_elder' zal10 (Kd.R_base ho0) hb)
    have n1_ := Aside0.mk (Kd.R_elder' zal12 (Kd.R_base ho0) hb)
    have n2_ := Aside0.mk (Kd.R_elder' zal9 (Kd.R_base ho0) hb)
    have n3_ := Aside0.mk (Kd.R_elder' zal8 (Kd.R_base ho0) hb)
    have n4_ := Aside0.mk (Kd.R_lower (Kd.R_new' (Kd.R_new' (Kd.R_new' (Kd.R_new' ho0 (Kd.R_lt zal10)) (Kd.R_lt zal12)) (Kd.R_lt zal9)) (Kd.R_lt zal8)) (below_size zal1))
    have n5_ := Aside0.mk (blk_below (g := gb888) (o := .cells #[.int .i64 a0_0, .int .i64 a0_1, .slice A0_2 l0_2.length c0_2] 24 (0, 0)) zal2 hb)
    have n6_ := Aside0.mk (blk_below (g := gb889) (o := .cells #[.int .i64 a1_0, .int .i64 a1_1] 26 (0, 0)) zal4 hb)
    have n7_ := Aside0.mk (blk_below (g := gb910) (o := .cells #[.int .i64 t905, .int .i64 t906, .slice Ao41 t907.length co41] 30 (0, 0)) zal7 hb)
    have n8_ := Aside0.mk (below_step zal1 hb)
    clear HO_8
    clear HO_11
    clear HO_12
    clear HO_911002
    clear BK888
    clear BK889
    clear BK910
    clear HB
    have HO_8 := n0_
    have HO_11 := n1_
    have HO_12 := n2_
    have HO_911002 := n3_
    have HO925 := n4_
    have BK888 := n5_
    have BK889 := n6_
    have BK910 := n7_
    have HB := n8_
    clear n0_ n1_ n2_ n3_ n4_ n5_ n6_ n7_ n8_
    (try clear hb)
    (try clear hb2)
    (try clear hk)
    (try clear hi)
    (try clear ho0)
    (try clear hna_)
    (try clear hnb_)
    obtain ⟨Ao116, co116, eo116⟩ := Kd.R_slice HO925.out
    (first | subst eo116 | (injection eo116 with f1_ f2_ f3_; have f4_ := f1_.symm; have f5_ := f3_.symm; clear f1_ f2_ f3_; subst f4_; subst f5_))
    refine hK.out _ _ ⟨(blk_cell BK910.out 0).trans rfl, (blk_cell BK910.out 1).trans rfl, (blk_cell BK910.out 2).trans rfl, (blk_cell BK888.out 0).trans rfl, (blk_cell BK888.out 1).trans rfl, (blk_cell BK888.out 2).trans rfl⟩ (fun hHeld => ?_)
    clear hK K
    refine norm_ (a' := ?_) ?_ ?_
    rotate_left
    ·show Act.put _ (some 60) _ = _
     simp only [Act.put, List.setIfInBounds_toArray, List.set_cons_zero, List.set_cons_succ, i64_w, i32_w]
     rfl
    refine one_ (i := 3) (N := some 61) #[true, true, true, true, false] rfl rfl (by kernel_rfl) (by decide) (fun K hK => ?_)
    refine goes_ Try.func21 (by kernel_rfl) rfl #[.agg #[.int .i64 t905, .int .i64 t906, .slice Ao41 t907.length co41], .agg #[.int .i64 t921, .int .i64 t922, .slice Ao116 t923.length co116]] (by rfl) rfl rfl zal3 ?_
    with_reducible refine (laws_eqBoard.calls kj21 t905 t906 _ _ t907 t921 t922 _ _ t923 true _ ?side1 ?side2 ?side3 ?side4 A55.out).mono ?_
    (case side1 => exact zal29)
    (case side2 => exact (Kd.R_reads' HO_911002.out).2.1)
    (case side3 => exact zal30)
    (case side4 => exact (Kd.R_reads' HO925.out).2.1)
    rintro e w117 ⟨rfl, hb⟩
    refine ⟨_, rfl, ?_⟩
    have n0_ := Aside0.mk (Kd.R_below zal10 hb)
    have n1_ := Aside0.mk (Kd.R_below zal12 hb)
    have n2_ := Aside0.mk (Kd.R_below zal9 hb)
    have n3_ := Aside0.mk (Kd.R_below zal8 hb)
    have n4_ := Aside0.mk (Kd.R_below zal19 hb)
    have n5_ := Aside0.mk (blk_below (g := gb888) (o := .cells #[.int .i64 a0_0, .int .i64 a0_1, .slice A0_2 l0_2.length c0_2] 24 (0, 0)) zal2 hb)
    have n6_ := Aside0.mk (blk_below (g := gb889) (o := .cells #[.int .i64 a1_0, .int .i64 a1_1] 26 (0, 0)) zal4 hb)
    have n7_ := Aside0.mk (blk_below (g := gb910) (o := .cells #[.int .i64 t905, .int .i64 t906, .slice Ao41 t907.length co41] 30 (0, 0)) zal7 hb)
    have n8_ := Aside0.mk (below_step zal1 hb)
    clear HO_8
    clear HO_11
    clear HO_12
    clear HO_911002
    clear HO925
    clear BK888
    clear BK889
    clear BK910
    clear HB
    have HO_8 := n0_
    have HO_11 := n1_
    have HO_12 := n2_
    have HO_911002 := n3_
    have HO925 := n4_
    have BK888 := n5_
    have BK889 := n6_
    have BK910 := n7_
    have HB := n8_
    clear n0_ n1_ n2_ n3_ n4_ n5_ n6_ n7_ n8_
    (try clear hb)
    (try clear hb2)
    (try clear hk)
    (try clear hi)
    (try clear hna_)
    (try clear hnb_)
    refine hK.out _ _ ⟨(blk_cell BK910.out 0).trans rfl, (blk_cell BK910.out 1).trans rfl, (blk_cell BK910.out 2).trans rfl, (blk_cell BK888.out 0).trans rfl, (blk_cell BK888.out 1).trans rfl, (blk_cell BK888.out 2).trans rfl⟩ (fun hHeld => ?_)
    clear hK K
    refine norm_ (a' := ?_) ?_ ?_
    rotate_left
    ·show Act.put _ (some 61) _ = _
     simp only [Act.put, List.setIfInBounds_toArray, List.set_cons_zero, List.set_cons_succ, i64_w, i32_w]
     rfl
    refine pure_ (i := 4) (N := some 62) (v := ?_) (a' := ?_) #[true, true, true, true, true] rfl rfl (by kernel_rfl) (fun _ _ _ h => h) (Or.inl ⟨by rfl, ?_⟩) ?_ ?_
    rotate_left
    ·intro w'
     go_simp
     with_reducible rfl
    rotate_left
    ·simp only [Act.put, List.setIfInBounds_toArray, List.set_cons_zero, List.set_cons_succ, i64_w, i32_w]
     rfl
    refine done_ (by kernel_rfl) ?_
    try go_wp2_with (first | ((with_reducible refine gate_callee (f := 19) rfl ?_); refine goesL_ (some 65) rfl rfl Try.func19 (by kernel_rfl) rfl #[.slice A2 l2.length c2] rfl zal3 ?_; (with_reducible refine (laws_toIntS.calls kj21 _ _ l2 t927 _ ?side1 ?side2 A57.out).mono ?_); (case side1 => exact zal21); (case side2 => exact HC2.out); rintro e w118 ⟨v928, rfl, ho0, hb⟩; refine ⟨_, rfl, ?_⟩; have n0_ := Aside0.mk (Kd.R_elder' zal10 (Kd.R_base ho0) hb); have n1_ := Aside0.mk (Kd.R_elder' zal12 (Kd.R_base ho0) hb); have n2_ := Aside0.mk (Kd.R_elder' zal9 (Kd.R_base ho0) hb); have n3_ := Aside0.mk (Kd.R_elder' zal8 (Kd.R_base ho0) hb); have n4_ := Aside0.mk (Kd.R_elder' zal19 (Kd.R_base ho0) hb); have n5_ := Aside0.mk (Kd.R_lower (Kd.R_new' (Kd.R_new' (Kd.R_new' (Kd.R_new' (Kd.R_new' ho0 (Kd.R_lt zal10)) (Kd.R_lt zal12)) (Kd.R_lt zal9)) (Kd.R_lt zal8)) (Kd.R_lt zal19)) (below_size zal1)); have n6_ := Aside0.mk (blk_below (g := gb888) (o := .cells #[.int .i64 a0_0, .int .i64 a0_1, .slice A0_2 l0_2.length c0_2] 24 (0, 0)) zal2 hb); have n7_ := Aside0.mk (blk_below (g := gb889) (o := .cells #[.int .i64 a1_0, .int .i64 a1_1] 26 (0, 0)) zal4 hb); have n8_ := Aside0.mk (blk_below (g := gb910) (o := .cells #[.int .i64 t905, .int .i64 t906, .slice Ao41 t907.length co41] 30 (0, 0)) zal7 hb); have n9_ := Aside0.mk (below_step zal1 hb); clear HO_8; clear HO_11; clear HO_12; clear HO_911002; clear HO925; clear BK888; clear BK889; clear BK910; clear HB; have HO_8 := n0_; have HO_11 := n1_; have HO_12 := n2_; have HO_911002 := n3_; have HO925 := n4_; have HO929 := n5_; have BK888 := n6_; have BK889 := n7_; have BK910 := n8_; have HB := n9_; clear n0_ n1_ n2_ n3_ n4_ n5_ n6_ n7_ n8_ n9_; (try clear hb); (try clear hb2); (try clear hk); (try clear hi); (try clear ho0); (try clear hna_); (try clear hnb_); obtain ⟨Ao119, co119, eo119⟩ := Kd.R_slice HO929.out; subst eo119) | ((with_reducible refine gate_callee (f := 22) rfl ?_); refine goesL_ (some 66) rfl rfl Try.func22 (by kernel_rfl) rfl #[.slice Ao45 t911.length co45, .slice Ao119 t927.length co119] rfl zal3 ?_; (with_reducible refine (laws_eqIntS.calls kj21 _ _ t911 _ _ t927 false _ ?side1 ?side2 ?side3 ?side4 A58.out).mono ?_); (case side1 => exact zal44); (case side2 => exact (Kd.R_reads' HO_11.out).2.1); (case side3 => exact zal46); (case side4 => exact (Kd.R_reads' HO929.out).2.1); rintro e w' ⟨rfl, ⟨nd, rfl⟩⟩; refine ⟨_, rfl, ?_⟩))
    go_ret
    exact ⟨zal17, zal1⟩
   subst c59
   have H1 : ((laws_markBoard.f kj21 t905 t906 t907 1).bind fun bt931 => ((laws_markIntS.f kj21 t911 bt931.1).bind fun bt933 => (if bt933.1 < 0 then (laws_FnExactGuardedBy.j1 kj21 l2 t901 t904 t916 true a0_0 a0_1 l0_2 a1_0 a1_1) else ((laws_eqIntS.f kj21 t916 t901).bind fun t935 => (if t935 = true then (laws_FnExactGuardedBy.j1 kj21 l2 t901 t904 t916 (t919 != t904) a0_0 a0_1 l0_2 a1_0 a1_1) else (laws_FnExactGuardedBy.j1 kj21 l2 t901 t904 t916 true a0_0 a0_1 l0_2 a1_0 a1_1)))))) = some r := by rw [if_pos rfl] at H; exact H
   clear H
   have H := H1
   clear H1
   replace H := Option.bind_eq_some_iff.mp H
   obtain ⟨⟨t931, t932⟩, A600, H⟩ := H
   replace H : ((laws_markIntS.f kj21 t911 t931).bind fun bt933 => (if bt933.1 < 0 then (laws_FnExactGuardedBy.j1 kj21 l2 t901 t904 t916 true a0_0 a0_1 l0_2 a1_0 a1_1) else ((laws_eqIntS.f kj21 t916 t901).bind fun t935 => (if t935 = true then (laws_FnExactGuardedBy.j1 kj21 l2 t901 t904 t916 (t919 != t904) a0_0 a0_1 l0_2 a1_0 a1_1) else (laws_FnExactGuardedBy.j1 kj21 l2 t901 t904 t916 true a0_0 a0_1 l0_2 a1_0 a1_1))))) = some r := H
   have A60 := Aside0.mk A600
   clear A600
   replace H := Option.bind_eq_some_iff.mp H
   obtain ⟨⟨t933, t934⟩, A610, H⟩ := H
   replace H : (if t933 < 0 then (laws_FnExactGuardedBy.j1 kj21 l2 t901 t904 t916 true a0_0 a0_1 l0_2 a1_0 a1_1) else ((laws_eqIntS.f kj21 t916 t901).bind fun t935 => (if t935 = true then (laws_FnExactGuardedBy.j1 kj21 l2 t901 t904 t916 (t919 != t904) a0_0 a0_1 l0_2 a1_0 a1_1) else (laws_FnExactGuardedBy.j1 kj21 l2 t901 t904 t916 true a0_0 a0_1 l0_2 a1_0 a1_1)))) = some r := H
   have A61 := Aside0.mk A610
   clear A610
   have HC62 := Aside0.mk H
   clear H
   try go_wp2
   have n0_ := Aside0.mk (Kd.R_drew HO_8.out)
   have n1_ := Aside0.mk (Kd.R_drew HO_11.out)
   have n2_ := Aside0.mk (Kd.R_drew HO_12.out)
   have n3_ := Aside0.mk (Kd.R_drew HO_911002.out)
   have n4_ := Aside0.mk (blk_drew BK888.out)
   have n5_ := Aside0.mk (blk_drew BK889.out)
   have n6_ := Aside0.mk (blk_drew BK910.out)
   have n7_ := Aside0.mk (below_drew1 HB.out)
   clear HO_8
   clear HO_11
   clear HO_12
   clear HO_911002
   clear BK888
   clear BK889
   clear BK910
   clear HB
   have HO_8 := n0_
   have HO_11 := n1_
   have HO_12 := n2_
   have HO_911002 := n3_
   have BK888 := n4_
   have BK889 := n5_
   have BK910 := n6_
   have HB := n7_
   clear n0_ n1_ n2_ n3_ n4_ n5_ n6_ n7_
   refine start_ (n := 5) (S := fun w' => w'.cell? ⟨gb910, 0, none⟩ = some (.int .i64 t905) ∧ w'.cell? ⟨gb910, 1, none⟩ = some (.int .i64 t906) ∧ w'.cell? ⟨gb910, 2, none⟩ = some (.slice Ao41 t907.length co41) ∧ w'.cell? ⟨gb888, 0, none⟩ = some (.int .i64 a0_0) ∧ w'.cell? ⟨gb888, 1, none⟩ = some (.int .i64 a0_1) ∧ w'.cell? ⟨gb888, 2, none⟩ = some (.slice A0_2 l0_2.length c0_2)) (ds := []) #[false, false, false, false, false] (by kernel_rfl) rfl rfl ⟨(blk_cell BK910.out 0).trans rfl, (blk_cell BK910.out 1).trans rfl, (blk_cell BK910.out 2).trans rfl, (blk_cell BK888.out 0).trans rfl, (blk_cell BK888.out 1).trans rfl, (blk_cell BK888.out 2).trans rfl⟩ (fun hHeld => ?_)
   generalize wc.drew = w63 at HO_8 HO_11 HO_12 HO_911002 BK888 BK889 BK910 HB hHeld ⊢
   refine take_ (i := 0) (N := some 58) (v := ?_) (a' := ?_) #[true, false, false, false, false] rfl rfl (by kernel_rfl) (fun _ _ _ h => h) (Or.inl ⟨by rfl, ?_⟩) hHeld ?_ ?_
   rotate_left
   ·rintro w' ⟨s0, s1, s2, s3, s4, s5⟩
    go_simp
    with_reducible rfl
   rotate_left
   ·simp only [Act.put, List.setIfInBounds_toArray, List.set_cons_zero, List.set_cons_succ, i64_w, i32_w]
    rfl
   refine take_ (i := 1) (N := some 59) (v := ?_) (a' := ?_) #[true, true, false, false, false] rfl rfl (by kernel_rfl) (fun _ _ _ h => h) (Or.inl ⟨by rfl, ?_⟩) hHeld ?_ ?_
   rotate_left
   ·rintro w' ⟨s0, s1, s2, s3, s4, s5⟩
    go_simp
    with_reducible rfl
   rotate_left
   ·simp only [Act.put, List.setIfInBounds_toArray, List.set_cons_zero, List.set_cons_succ, i64_w, i32_w]
    rfl
   refine one_ (i := 2) (N := some 60) #[true, true, true, false, false] rfl rfl (by kernel_rfl) (by decide) (fun K hK => ?_)
   refine goes_ Try.func17 (by kernel_rfl) rfl #[.agg #[.int .i64 a0_0, .int .i64 a0_1, .slice A0_2 l0_2.length c0_2]] (by rfl) rfl rfl zal3 ?_
   with_reducible refine (laws_toBoard.calls kj21 a0_0 a0_1 _ _ l0_2 t921 t922 t923 _ ?side1 ?side2 A54.out).mono ?_
   (case side1 => exact zal13)
   (case side2 => exact HC0_2.out)
   rintro e w64 ⟨v924, rfl, ho0, hb⟩
   refine ⟨_, rfl, ?_⟩
   have n0_ := Aside0.mk (Kd.R_elder' zal10 (Kd.R_base ho0) hb)
   have n1_ := Aside0.mk (Kd.R_elder' zal12 (Kd.R_base ho0) hb)
   have n2_ := Aside0.mk (Kd.R_elder' zal9 (Kd.R_base ho0) hb)
   have n3_ := Aside0.mk (Kd.R_elder' zal8 (Kd.R_base ho0) hb)
   have n4_ := Aside0.mk (Kd.R_lower (Kd.R_new' (Kd.R_new' (Kd.R_new' (Kd.R_new' ho0 (Kd.R_lt zal10)) (Kd.R_lt zal12)) (Kd.R_lt zal9)) (Kd.R_lt zal8)) (below_size zal1))
   have n5_ := Aside0.mk (blk_below (g := gb888) (o := .cells #[.int .i64 a0_0, .int .i64 a0_1, .slice A0_2 l0_2.length c0_2] 24 (0, 0)) zal2 hb)
   have n6_ := Aside0.mk (blk_below (g := gb889) (o := .cells #[.int .i64 a1_0, .int .i64 a1_1] 26 (0, 0)) zal4 hb)
   have n7_ := Aside0.mk (blk_below (g := gb910) (o := .cells #[.int .i64 t905, .int .i64 t906, .slice Ao41 t907.length co41] 30 (0, 0)) zal7 hb)
   have n8_ := Aside0.mk (below_step zal1 hb)
   clear HO_8
   clear HO_11
   clear HO_12
   clear HO_911002
   clear BK888
   clear BK889
   clear BK910
   clear HB
   have HO_8 := n0_
   have HO_11 := n1_
   have HO_12 := n2_
   have HO_911002 := n3_
   have HO925 := n4_
   have BK888 := n5_
   have BK889 := n6_
   have BK910 := n7_
   have HB := n8_
   clear n0_ n1_ n2_ n3_ n4_ n5_ n6_ n7_ n8_
   (try clear hb)
   (try clear hb2)
   (try clear hk)
   (try clear hi)
   (try clear ho0)
   (try clear hna_)
   (try clear hnb_)
   obtain ⟨Ao65, co65, eo65⟩ := Kd.R_slice HO925.out
   (first | subst eo65 | (injection eo65 with f1_ f2_ f3_; have f4_ := f1_.symm; have f5_ := f3_.symm; clear f1_ f2_ f3_; subst f4_; subst f5_))
   refine hK.out _ _ ⟨(blk_cell BK910.out 0).trans rfl, (blk_cell BK910.out 1).trans rfl, (blk_cell BK910.out 2).trans rfl, (blk_cell BK888.out 0).trans rfl, (blk_cell BK888.out 1).trans rfl, (blk_cell BK888.out 2).trans rfl⟩ (fun hHeld => ?_)
   clear hK K
   refine norm_ (a' := ?_) ?_ ?_
   rotate_left
   ·show Act.put _ (some 60) _ = _
    simp only [Act.put, List.setIfInBounds_toArray, List.set_cons_zero, List.set_cons_succ, i64_w, i32_w]
    rfl
   refine one_ (i := 3) (N := some 61) #[true, true, true, true, false] rfl rfl (by kernel_rfl) (by decide) (fun K hK => ?_)
   refine goes_ Try.func21 (by kernel_rfl) rfl #[.agg #[.int .i64 t905, .int .i64 t906, .slice Ao41 t907.length co41], .agg #[.int .i64 t921, .int .i64 t922, .slice Ao65 t923.length co65]] (by rfl) rfl rfl zal3 ?_
   with_reducible refine (laws_eqBoard.calls kj21 t905 t906 _ _ t907 t921 t922 _ _ t923 true _ ?side1 ?side2 ?side3 ?side4 A55.out).mono ?_
   (case side1 => exact zal29)
   (case side2 => exact (Kd.R_reads' HO_911002.out).2.1)
   (case side3 => exact zal30)
   (case side4 => exact (Kd.R_reads' HO925.out).2.1)
   rintro e w66 ⟨rfl, hb⟩
   refine ⟨_, rfl, ?_⟩
   have n0_ := Aside0.mk (Kd.R_below zal10 hb)
   have n1_ := Aside0.mk (Kd.R_below zal12 hb)
   have n2_ := Aside0.mk (Kd.R_below zal9 hb)
   have n3_ := Aside0.mk (Kd.R_below zal8 hb)
   have n4_ := Aside0.mk (Kd.R_below zal19 hb)
   have n5_ := Aside0.mk (blk_below (g := gb888) (o := .cells #[.int .i64 a0_0, .int .i64 a0_1, .slice A0_2 l0_2.length c0_2] 24 (0, 0)) zal2 hb)
   have n6_ := Aside0.mk (blk_below (g := gb889) (o := .cells #[.int .i64 a1_0, .int .i64 a1_1] 26 (0, 0)) zal4 hb)
   have n7_ := Aside0.mk (blk_below (g := gb910) (o := .cells #[.int .i64 t905, .int .i64 t906, .slice Ao41 t907.length co41] 30 (0, 0)) zal7 hb)
   have n8_ := Aside0.mk (below_step zal1 hb)
   clear HO_8
   clear HO_11
   clear HO_12
   clear HO_911002
   clear HO925
   clear BK888
   clear BK889
   clear BK910
   clear HB
   have HO_8 := n0_
   have HO_11 := n1_
   have HO_12 := n2_
   have HO_911002 := n3_
   have HO925 := n4_
   have BK888 := n5_
   have BK889 := n6_
   have BK910 := n7_
   have HB := n8_
   clear n0_ n1_ n2_ n3_ n4_ n5_ n6_ n7_ n8_
   (try clear hb)
   (try clear hb2)
   (try clear hk)
   (try clear hi)
   (try clear hna_)
   (try clear hnb_)
   refine hK.out _ _ ⟨(blk_cell BK910.out 0).trans rfl, (blk_cell BK910.out 1).trans rfl, (blk_cell BK910.out 2).trans rfl, (blk_cell BK888.out 0).trans rfl, (blk_cell BK888.out 1).trans rfl, (blk_cell BK888.out 2).trans rfl⟩ (fun hHeld => ?_)
   clear hK K
   refine norm_ (a' := ?_) ?_ ?_
   rotate_left
   ·show Act.put _ (some 61) _ = _
    simp only [Act.put, List.setIfInBounds_toArray, List.set_cons_zero, List.set_cons_succ, i64_w, i32_w]
    rfl
   refine pure_ (i := 4) (N := some 62) (v := ?_) (a' := ?_) #[true, true, true, true, true] rfl rfl (by kernel_rfl) (fun _ _ _ h => h) (Or.inl ⟨by rfl, ?_⟩) ?_ ?_
   rotate_left
   ·intro w'
    go_simp
    with_reducible rfl
   rotate_left
   ·simp only [Act.put, List.setIfInBounds_toArray, List.set_cons_zero, List.set_cons_succ, i64_w, i32_w]
    rfl
   refine done_ (by kernel_rfl) ?_
   go_upto_region 20 with (first | ((with_reducible refine gate_callee (f := 19) rfl ?_); refine goesL_ (some 65) rfl rfl Try.func19 (by kernel_rfl) rfl #[.slice A2 l2.length c2] rfl zal3 ?_; (with_reducible refine (laws_toIntS.calls kj21 _ _ l2 t927 _ ?side1 ?side2 A57.out).mono ?_); (case side1 => exact zal21); (case side2 => exact HC2.out); rintro e w67 ⟨v928, rfl, ho0, hb⟩; refine ⟨_, rfl, ?_⟩; have n0_ := Aside0.mk (Kd.R_elder' zal10 (Kd.R_base ho0) hb); have n1_ := Aside0.mk (Kd.R_elder' zal12 (Kd.R_base ho0) hb); have n2_ := Aside0.mk (Kd.R_elder' zal9 (Kd.R_base ho0) hb); have n3_ := Aside0.mk (Kd.R_elder' zal8 (Kd.R_base ho0) hb); have n4_ := Aside0.mk (Kd.R_elder' zal19 (Kd.R_base ho0) hb); have n5_ := Aside0.mk (Kd.R_lower (Kd.R_new' (Kd.R_new' (Kd.R_new' (Kd.R_new' (Kd.R_new' ho0 (Kd.R_lt zal10)) (Kd.R_lt zal12)) (Kd.R_lt zal9)) (Kd.R_lt zal8)) (Kd.R_lt zal19)) (below_size zal1)); have n6_ := Aside0.mk (blk_below (g := gb888) (o := .cells #[.int .i64 a0_0, .int .i64 a0_1, .slice A0_2 l0_2.length c0_2] 24 (0, 0)) zal2 hb); have n7_ := Aside0.mk (blk_below (g := gb889) (o := .cells #[.int .i64 a1_0, .int .i64 a1_1] 26 (0, 0)) zal4 hb); have n8_ := Aside0.mk (blk_below (g := gb910) (o := .cells #[.int .i64 t905, .int .i64 t906, .slice Ao41 t907.length co41] 30 (0, 0)) zal7 hb); have n9_ := Aside0.mk (below_step zal1 hb); clear HO_8; clear HO_11; clear HO_12; clear HO_911002; clear HO925; clear BK888; clear BK889; clear BK910; clear HB; have HO_8 := n0_; have HO_11 := n1_; have HO_12 := n2_; have HO_911002 := n3_; have HO925 := n4_; have HO929 := n5_; have BK888 := n6_; have BK889 := n7_; have BK910 := n8_; have HB := n9_; clear n0_ n1_ n2_ n3_ n4_ n5_ n6_ n7_ n8_ n9_; (try clear hb); (try clear hb2); (try clear hk); (try clear hi); (try clear ho0); (try clear hna_); (try clear hnb_); obtain ⟨Ao68, co68, eo68⟩ := Kd.R_slice HO929.out; subst eo68) | ((with_reducible refine gate_callee (f := 22) rfl ?_); refine goesL_ (some 66) rfl rfl Try.func22 (by kernel_rfl) rfl #[.slice Ao45 t911.length co45, .slice Ao68 t927.length co68] rfl zal3 ?_; (with_reducible refine (laws_eqIntS.calls kj21 _ _ t911 _ _ t927 true _ ?side1 ?side2 ?side3 ?side4 A58.out).mono ?_); (case side1 => exact zal44); (case side2 => exact (Kd.R_reads' HO_11.out).2.1); (case side3 => exact zal46); (case side4 => exact (Kd.R_reads' HO929.out).2.1); rintro e w' ⟨rfl, ⟨nd, rfl⟩⟩; refine ⟨_, rfl, ?_⟩; have hnb69 := NB910_888.out; have hnc69 := NB888_910.out; have hnb70 := NB910_889.out; have hnc70 := NB889_910.out; have hcz71_0 : w67.cell? ⟨gb910, 0, none⟩ = some (.int .i64 t905) := (blk_cell BK910.out 0).trans rfl; have hcz71_1 : w67.cell? ⟨gb910, 1, none⟩ = some (.int .i64 t906) := (blk_cell BK910.out 1).trans rfl; have hcz71_2 : w67.cell? ⟨gb910, 2, none⟩ = some (.slice Ao41 t907.length co41) := (blk_cell BK910.out 2).trans rfl; have hfz71_0 := blk_frozen BK910.out 0; have hfz71_1 := blk_frozen BK910.out 1; have hfz71_2 := blk_frozen BK910.out 2) | ((with_reducible refine gate_callee (f := 31) rfl ?_); refine goesL_ (some 70) rfl rfl Try.func31 (by kernel_rfl) rfl #[.agg #[.int .i64 t905, .int .i64 t906, .slice Ao41 t907.length co41], .int .i64 1] rfl zal3 ?_; (with_reducible refine (laws_markBoard.calls kj21 t905 t906 (fun k_ => some k_ = (.slice Ao41 t907.length co41 : Value).ownBlock) (.slice Ao41 t907.length co41) t907 1 t931 t932 w _ ?side1 ?side2 A60.out).mono ?_); (case side1 => exact zal1); (case side2 => exact Kd.R_tight rfl HO_911002.out); rintro e w72 ⟨rfl, hy0, hb, hkp⟩; refine ⟨_, rfl, ?_⟩; have n0_ := Aside0.mk (Kd.R_mono (ok' := fun k_ => some k_ ≠ (.slice Ao45 t911.length co45 : Value).ownBlock ∧ some k_ ≠ (v917 : Value).ownBlock ∧ some k_ ≠ (.slice Ao41 t907.length co41 : Value).ownBlock ∧ some k_ ≠ (.slice Ao65 t923.length co65 : Value).ownBlock ∧ some k_ ≠ (.slice Ao68 t927.length co68 : Value).ownBlock) (Kd.R_keptB (HO_8.out) hkp (fun k_ hk_ hs_ => (hk_.1.1.2.2) hs_)) (fun k_ hk_ => ⟨hk_.1.1.1.1, hk_.1.1.1.2.1, hk_.1.1.1.2.2, hk_.1.1.2, hk_.1.2⟩)); have n1_ := Aside0.mk (Kd.R_mono (ok' := fun k_ => some k_ ≠ (v902 : Value).ownBlock ∧ some k_ ≠ (v917 : Value).ownBlock ∧ some k_ ≠ (.slice Ao41 t907.length co41 : Value).ownBlock ∧ some k_ ≠ (.slice Ao65 t923.length co65 : Value).ownBlock ∧ some k_ ≠ (.slice Ao68 t927.length co68 : Value).ownBlock) (Kd.R_keptB (HO_11.out) hkp (fun k_ hk_ hs_ => (hk_.1.1.2.2) hs_)) (fun k_ hk_ => ⟨hk_.1.1.1.1, hk_.1.1.1.2.1, hk_.1.1.1.2.2, hk_.1.1.2, hk_.1.2⟩)); have n2_ := Aside0.mk (Kd.R_mono (ok' := fun k_ => some k_ ≠ (v902 : Value).ownBlock ∧ some k_ ≠ (.slice Ao45 t911.length co45 : Value).ownBlock ∧ some k_ ≠ (.slice Ao41 t907.length co41 : Value).ownBlock ∧ some k_ ≠ (.slice Ao65 t923.length co65 : Value).ownBlock ∧ some k_ ≠ (.slice Ao68 t927.length co68 : Value).ownBlock) (Kd.R_keptB (HO_12.out) hkp (fun k_ hk_ hs_ => (hk_.1.1.2.2) hs_)) (fun k_ hk_ => ⟨hk_.1.1.1.1, hk_.1.1.1.2.1, hk_.1.1.1.2.2, hk_.1.1.2, hk_.1.2⟩)); have n3_ := Aside0.mk (Kd.R_reok rfl hy0 (fun k_ e_ => HO_911002.out.1 k_ e_)); have n4_ := Aside0.mk (blk_kept zal2 hkp (fun hs_ => (fun e_ => (Kd.R_ne HO_911002.out BK888.out (by decide)) e_) hs_)); have n5_ := Aside0.mk (blk_kept zal4 hkp (fun hs_ => (fun e_ => (Kd.R_ne HO_911002.out BK889.out (by decide)) e_) hs_)); have n6_ := Aside0.mk (blk_kept zal7 hkp (fun hs_ => (fun e_ => (Kd.R_ne HO_911002.out BK910.out (by decide)) e_) hs_)); have n7_ := Aside0.mk (Kd.R_mono (ok' := fun k_ => some k_ ≠ (v902 : Value).ownBlock ∧ some k_ ≠ (.slice Ao45 t911.length co45 : Value).ownBlock ∧ some k_ ≠ (v917 : Value).ownBlock ∧ some k_ ≠ (.slice Ao41 t907.length co41 : Value).ownBlock ∧ some k_ ≠ (.slice Ao68 t927.length co68 : Value).ownBlock) (Kd.R_keptB (HO925.out) hkp (fun k_ hk_ hs_ => (hk_.1.2) hs_)) (fun k_ hk_ => ⟨hk_.1.1.1.1.1.2, hk_.1.1.1.1.2, hk_.1.1.1.2, hk_.1.1.2, hk_.1.2⟩)); have n8_ := Aside0.mk (Kd.R_mono (ok' := fun k_ => some k_ ≠ (v902 : Value).ownBlock ∧ some k_ ≠ (.slice Ao45 t911.length co45 : Value).ownBlock ∧ some k_ ≠ (v917 : Value).ownBlock ∧ some k_ ≠ (.slice Ao41 t907.length co41 : Value).ownBlock ∧ some k_ ≠ (.slice Ao65 t923.length co65 : Value).ownBlock) (Kd.R_keptB (HO929.out) hkp (fun k_ hk_ hs_ => (hk_.1.2) hs_)) (fun k_ hk_ => ⟨hk_.1.1.1.1.1.2, hk_.1.1.1.1.2, hk_.1.1.1.2, hk_.1.1.2, hk_.1.2⟩)); have n9_ := Aside0.mk (hb); clear HO_8; clear HO_11; clear HO_12; clear HO_911002; clear BK888; clear BK889; clear BK910; clear HO925; clear HO929; clear HB; have HO_8 := n0_; have HO_11 := n1_; have HO_12 := n2_; have HO_911002 := n3_; have BK888 := n4_; have BK889 := n5_; have BK910 := n6_; have HO925 := n7_; have HO929 := n8_; have HB := n9_; clear n0_ n1_ n2_ n3_ n4_ n5_ n6_ n7_ n8_ n9_; (try clear hb); (try clear hkp); (try clear hy0)) | ((with_reducible refine gate_callee (f := 32) rfl ?_); refine goesL_ (some 73) rfl rfl Try.func32 (by kernel_rfl) rfl #[.slice Ao45 t911.length co45, .int .i64 t931] rfl zal3 ?_; (with_reducible refine (laws_markIntS.calls kj21 (fun k_ => some k_ = (.slice Ao45 t911.length co45 : Value).ownBlock) (.slice Ao45 t911.length co45) t911 t931 t933 t934 w _ ?side1 ?side2 A61.out).mono ?_); (case side1 => exact zal1); (case side2 => exact Kd.R_tight rfl HO_11.out); rintro e w73 ⟨rfl, hy0, hb, hkp⟩; refine ⟨_, rfl, ?_⟩; have n0_ := Aside0.mk (Kd.R_mono (ok' := fun k_ => some k_ ≠ (.slice Ao45 t911.length co45 : Value).ownBlock ∧ some k_ ≠ (v917 : Value).ownBlock ∧ some k_ ≠ (.slice Ao41 t907.length co41 : Value).ownBlock ∧ some k_ ≠ (.slice Ao65 t923.length co65 : Value).ownBlock ∧ some k_ ≠ (.slice Ao68 t927.length co68 : Value).ownBlock) (Kd.R_keptB (HO_8.out) hkp (fun k_ hk_ hs_ => (hk_.1) hs_)) (fun k_ hk_ => ⟨hk_.1.1, hk_.1.2.1, hk_.1.2.2.1, hk_.1.2.2.2.1, hk_.1.2.2.2.2⟩)); have n1_ := Aside0.mk (Kd.R_reok rfl hy0 (fun k_ e_ => HO_11.out.1 k_ e_)); have n2_ := Aside0.mk (Kd.R_mono (ok' := fun k_ => some k_ ≠ (v902 : Value).ownBlock ∧ some k_ ≠ (.slice Ao45 t911.length co45 : Value).ownBlock ∧ some k_ ≠ (.slice Ao41 t907.length co41 : Value).ownBlock ∧ some k_ ≠ (.slice Ao65 t923.length co65 : Value).ownBlock ∧ some k_ ≠ (.slice Ao68 t927.length co68 : Value).ownBlock) (Kd.R_keptB (HO_12.out) hkp (fun k_ hk_ hs_ => (hk_.2.1) hs_)) (fun k_ hk_ => ⟨hk_.1.1, hk_.1.2.1, hk_.1.2.2.1, hk_.1.2.2.2.1, hk_.1.2.2.2.2⟩)); have n3_ := Aside0.mk (Kd.R_mono (ok' := fun k_ => some k_ ≠ (v902 : Value).ownBlock ∧ some k_ ≠ (.slice Ao45 t911.length co45 : Value).ownBlock ∧ some k_ ≠ (v917 : Value).ownBlock ∧ some k_ ≠ (.slice Ao65 t923.length co65 : Value).ownBlock ∧ some k_ ≠ (.slice Ao68 t927.length co68 : Value).ownBlock) (Kd.R_keptB (HO_911002.out) hkp (fun k_ hk_ hs_ => (hk_.1.1.2.1) hs_)) (fun k_ hk_ => ⟨hk_.1.1.1.1, hk_.1.1.1.2.1, hk_.1.1.1.2.2, hk_.1.1.2, hk_.1.2⟩)); have n4_ := Aside0.mk (blk_kept zal2 hkp (fun hs_ => (fun e_ => (Kd.R_ne HO_11.out BK888.out (by decide)) e_) hs_)); have n5_ := Aside0.mk (blk_kept zal4 hkp (fun hs_ => (fun e_ => (Kd.R_ne HO_11.out BK889.out (by decide)) e_) hs_)); have n6_ := Aside0.mk (blk_kept zal7 hkp (fun hs_ => (fun e_ => (Kd.R_ne HO_11.out BK910.out (by decide)) e_) hs_)); have n7_ := Aside0.mk (Kd.R_mono (ok' := fun k_ => some k_ ≠ (v902 : Value).ownBlock ∧ some k_ ≠ (.slice Ao45 t911.length co45 : Value).ownBlock ∧ some k_ ≠ (v917 : Value).ownBlock ∧ some k_ ≠ (.slice Ao41 t907.length co41 : Value).ownBlock ∧ some k_ ≠ (.slice Ao68 t927.length co68 : Value).ownBlock) (Kd.R_keptB (HO925.out) hkp (fun k_ hk_ hs_ => (hk_.2.1) hs_)) (fun k_ hk_ => ⟨hk_.1.1, hk_.1.2.1, hk_.1.2.2.1, hk_.1.2.2.2.1, hk_.1.2.2.2.2⟩)); have n8_ := Aside0.mk (Kd.R_mono (ok' := fun k_ => some k_ ≠ (v902 : Value).ownBlock ∧ some k_ ≠ (.slice Ao45 t911.length co45 : Value).ownBlock ∧ some k_ ≠ (v917 : Value).ownBlock ∧ some k_ ≠ (.slice Ao41 t907.length co41 : Value).ownBlock ∧ some k_ ≠ (.slice Ao65 t923.length co65 : Value).ownBlock) (Kd.R_keptB (HO929.out) hkp (fun k_ hk_ hs_ => (hk_.2.1) hs_)) (fun k_ hk_ => ⟨hk_.1.1, hk_.1.2.1, hk_.1.2.2.1, hk_.1.2.2.2.1, hk_.1.2.2.2.2⟩)); have n9_ := Aside0.mk (hb); clear HO_8; clear HO_11; clear HO_12; clear HO_911002; clear BK888; clear BK889; clear BK910; clear HO925; clear HO929; clear HB; have HO_8 := n0_; have HO_11 := n1_; have HO_12 := n2_; have HO_911002 := n3_; have BK888 := n4_; have BK889 := n5_; have BK910 := n6_; have HO925 := n7_; have HO929 := n8_; have HB := n9_; clear n0_ n1_ n2_ n3_ n4_ n5_ n6_ n7_ n8_ n9_; (try clear hb); (try clear hkp); (try clear hy0)))
   (try simp only [Act.put, List.setIfInBounds_toArray, List.set_cons_zero, List.set_cons_succ])
   go_cut [86] (fun v86 wc => ∃ (kq : Nat) (x86_61 : Bool), v86 = .bool x86_61 ∧ Aside0 (laws_FnExactGuardedBy.j1 kq l2 t901 t904 t916 x86_61 a0_0 a0_1 l0_2 a1_0 a1_1 = some r) ∧ Aside0 (kq ≤ kj21) ∧ Aside0 (Kd.R (Kd.int .i64) 3 wc w.heap.size (fun k_ => some k_ ≠ (v917 : Value).ownBlock ∧ some k_ ≠ ((.slice Ao41 t907.length co41) : Value).ownBlock) v902 t901) ∧ Aside0 (Kd.R (Kd.int .i64) 3 wc w.heap.size (fun k_ => some k_ ≠ (v902 : Value).ownBlock ∧ some k_ ≠ ((.slice Ao41 t907.length co41) : Value).ownBlock) v917 t916) ∧ Aside0 (Kd.R (Kd.int .i64) 3 wc w.heap.size (fun k_ => some k_ ≠ (v902 : Value).ownBlock ∧ some k_ ≠ (v917 : Value).ownBlock) (.slice Ao41 t907.length co41) t932) ∧ Aside0 (wc.heap[gb888]? = some (.cells #[.int .i64 a0_0, .int .i64 a0_1, (.slice A0_2 l0_2.length c0_2)] 24 (0, 0))) ∧ Aside0 (wc.heap[gb889]? = some (.cells #[.int .i64 a1_0, .int .i64 a1_1] 26 (0, 0))) ∧ Aside0 (wc.heap[gb910]? = some (.cells #[.int .i64 t905, .int .i64 t906, (.slice Ao41 t907.length co41)] 30 (0, 0))) ∧ Aside0 (Below w.heap.size w wc))
   case first =>
    have H := HC62.out
    clear HC62
    by_cases c74 : t933 < 0
    ·rw [if_pos c74] at H
     have c74b0 : decide (t933 < 0) = true := decide_eq_true c74
     clear c74
     (first | rw [c74b0] | (simp only [i64_w, i32_w]; rw [c74b0]) | skip)
     have H' := Aside0.mk H
     clear H
     go_wp2
     go_meet
     case rel => exact ⟨_, (true), zal35, H', ⟨by have := HJ21.out; first | omega | exact Nat.le_refl _⟩, ⟨zal33⟩, ⟨zal34⟩, ⟨zal32⟩, ⟨zal2⟩, ⟨zal4⟩, ⟨zal7⟩, ⟨zal1⟩⟩
    rw [if_neg c74] at H
    have c74b0 : decide (t933 < 0) = false := decide_eq_false c74
    clear c74
    (first | rw [c74b0] | (simp only [i64_w, i32_w]; rw [c74b0]) | skip)
    replace H := Option.bind_eq_some_iff.mp H
    obtain ⟨t935, A750, H⟩ := H
    replace H : (if t935 = true then (laws_FnExactGuardedBy.j1 kj21 l2 t901 t904 t916 (t919 != t904) a0_0 a0_1 l0_2 a1_0 a1_1) else (laws_FnExactGuardedBy.j1 kj21 l2 t901 t904 t916 true a0_0 a0_1 l0_2 a1_0 a1_1)) = some r := H
    have A75 := Aside0.mk A750
    clear A750
    by_cases c76 : t935 = true
    ·subst c76
     have H1 : (laws_FnExactGuardedBy.j1 kj21 l2 t901 t904 t916 (t919 != t904) a0_0 a0_1 l0_2 a1_0 a1_1) = some r := by rw [if_pos rfl] at H; exact H
     clear H
     have H := H1
     clear H1
     have H' := Aside0.mk H
     clear H
     obtain ⟨Ao77, co77, eo77⟩ := Kd.R_slice HO_12.out
     subst eo77
     obtain ⟨Ao78, co78, eo78⟩ := Kd.R_slice HO_8.out
     subst eo78
     go_wp2_with (first | (go_at_call 22; (with_reducible refine (laws_eqIntS.calls kj21 _ _ t916 _ _ t901 true _ ?side1 ?side2 ?side3 ?side4 A75.out).mono ?_); (case side1 => exact zal14); (case side2 => exact (Kd.R_reads' HO_12.out).2.1); (case side3 => exact zal22); (case side4 => exact (Kd.R_reads' HO_8.out).2.1); rintro e w' ⟨rfl, ⟨nd, rfl⟩⟩))
     go_meet
     case rel => exact ⟨_, ((t919 != t904)), zal35, H', ⟨by have := HJ21.out; first | omega | exact Nat.le_refl _⟩, ⟨zal33⟩, ⟨zal34⟩, ⟨zal32⟩, ⟨zal2⟩, ⟨zal4⟩, ⟨zal7⟩, ⟨zal1⟩⟩
    replace c76 := Bool.eq_false_iff.mpr c76
    subst c76
    have H1 : (laws_FnExactGuardedBy.j1 kj21 l2 t901 t904 t916 true a0_0 a0_1 l0_2 a1_0 a1_1) = some r := by rw [if_neg (show ¬ (false = true) by decide)] at H; exact H
    clear H
    have H := H1
    clear H1
    have H' := Aside0.mk H
    clear H
    obtain ⟨Ao79, co79, eo79⟩ := Kd.R_slice HO_12.out
    subst eo79
    obtain ⟨Ao80, co80, eo80⟩ := Kd.R_slice HO_8.out
    subst eo80
    go_wp2_with (first | (go_at_call 22; (with_reducible refine (laws_eqIntS.calls kj21 _ _ t916 _ _ t901 false _ ?side1 ?side2 ?side3 ?side4 A75.out).mono ?_); (case side1 => exact zal14); (case side2 => exact (Kd.R_reads' HO_12.out).2.1); (case side3 => exact zal22); (case side4 => exact (Kd.R_reads' HO_8.out).2.1); rintro e w' ⟨rfl, ⟨nd, rfl⟩⟩))
    go_meet
    case rel => exact ⟨_, (true), zal35, H', ⟨by have := HJ21.out; first | omega | exact Nat.le_refl _⟩, ⟨zal33⟩, ⟨zal34⟩, ⟨zal32⟩, ⟨zal2⟩, ⟨zal4⟩, ⟨zal7⟩, ⟨zal1⟩⟩
   case rest =>
    clear HC62
    try clear c1; try clear c2; try clear p2; try clear c3; try clear c4; try clear c4b0; try clear c4b1; try clear c5; try clear c6; try clear c7; try clear c8; try clear c8b0; try clear c10; try clear c11; try clear c15; try clear c17; try clear c18; try clear c19; try clear c21; try clear c22; try clear c25; try clear c31; try clear c32; try clear c38; try clear c39; try clear c48; try clear c53; try clear c56; try clear c59; try clear c69; try clear c70; try clear c74; try clear c74b0; try clear c76; try clear hcz12_0; try clear hcz12_1; try clear hcz12_2; try clear hcz26_0; try clear hcz26_1; try clear hcz26_2
    try clear hcz35_0; try clear hcz35_1; try clear hcz35_2; try clear hcz40_0; try clear hcz40_1; try clear hcz40_2; try clear hcz71_0; try clear hcz71_1; try clear hcz71_2; try clear hfz12_0; try clear hfz12_1; try clear hfz12_2; try clear hfz26_0; try clear hfz26_1; try clear hfz26_2; try clear hfz35_0; try clear hfz35_1; try clear hfz35_2; try clear hfz40_0; try clear hfz40_1; try clear hfz40_2; try clear hfz71_0; try clear hfz71_1; try clear hfz71_2; try clear p2
    obtain ⟨kq, x86_61, rfl, HA, HJ61, HO_8, HO_12, HO_911002, BK888, BK889, BK910, HB⟩ := hcut
    have hl911002_61 := (Kd.R_reads' HO_911002.out).1
    rw [hl911002_61] at HO_911002
    (try simp only [hl911002_61])
    (try simp only [hl911002_61] at BK888)
    (try simp only [hl911002_61] at BK889)
    (try simp only [hl911002_61] at BK910)
    (try simp only [hl911002_61] at HO_8)
    (try simp only [hl911002_61] at HO_12)
    cases kq with
    | zero => exact absurd HA.out (by simp [laws_FnExactGuardedBy.j1])
    | succ kj61 =>
     have H := HA.out
     clear HA
     simp only [laws_FnExactGuardedBy.j1] at H
     by_cases c81 : x86_61 = true
     ·subst c81
      have H1 : (some false) = some r := by rw [if_pos rfl] at H; exact H
      clear H
      have H := H1
      clear H1
      obtain rfl := Option.some.inj H
      go_wp2
      go_ret
      exact ⟨zal17, zal1⟩
     replace c81 := Bool.eq_false_iff.mpr c81
     subst c81
     have H1 : ((laws_markIntS.f kj61 t916 1).bind fun bt936 => ((laws_heldIntS.f kj61 bt936.2 1).bind fun t938 => (if t938 < 0 then (some false) else (if t938 = bt936.1 then ((laws_toBoard.f kj61 a0_0 a0_1 l0_2).bind fun bt939 => ((laws_toLeaper.f a1_0 a1_1).bind fun bt944 => ((laws_toIntS.f kj61 l2).bind fun t946 => ((impl_GuardedBy.f kj61 bt939.1 bt939.2.1 bt939.2.2 bt944.1 bt944.2 t946).bind fun bt949 => ((laws_eqIntS.f kj61 bt949.1 t901).bind fun t953 => (if t953 = true then (laws_FnExactGuardedBy.j2 kj61 bt936.2 bt936.1 (bt949.2 != t904)) else (laws_FnExactGuardedBy.j2 kj61 bt936.2 bt936.1 true))))))) else (some false))))) = some r := by rw [if_neg (show ¬ (false = true) by decide)] at H; exact H
     clear H
     have H := H1
     clear H1
     replace H := Option.bind_eq_some_iff.mp H
     obtain ⟨⟨t936, t937⟩, A820, H⟩ := H
     replace H : ((laws_heldIntS.f kj61 t937 1).bind fun t938 => (if t938 < 0 then (some false) else (if t938 = t936 then ((laws_toBoard.f kj61 a0_0 a0_1 l0_2).bind fun bt939 => ((laws_toLeaper.f a1_0 a1_1).bind fun bt944 => ((laws_toIntS.f kj61 l2).bind fun t946 => ((impl_GuardedBy.f kj61 bt939.1 bt939.2.1 bt939.2.2 bt944.1 bt944.2 t946).bind fun bt949 => ((laws_eqIntS.f kj61 bt949.1 t901).bind fun t953 => (if t953 = true then (laws_FnExactGuardedBy.j2 kj61 t937 t936 (bt949.2 != t904)) else (laws_FnExactGuardedBy.j2 kj61 t937 t936 true))))))) else (some false)))) = some r := H
     have A82 := Aside0.mk A820
     clear A820
     replace H := Option.bind_eq_some_iff.mp H
     obtain ⟨t938, A830, H⟩ := H
     replace H : (if t938 < 0 then (some false) else (if t938 = t936 then ((laws_toBoard.f kj61 a0_0 a0_1 l0_2).bind fun bt939 => ((laws_toLeaper.f a1_0 a1_1).bind fun bt944 => ((laws_toIntS.f kj61 l2).bind fun t946 => ((impl_GuardedBy.f kj61 bt939.1 bt939.2.1 bt939.2.2 bt944.1 bt944.2 t946).bind fun bt949 => ((laws_eqIntS.f kj61 bt949.1 t901).bind fun t953 => (if t953 = true then (laws_FnExactGuardedBy.j2 kj61 t937 t936 (bt949.2 != t904)) else (laws_FnExactGuardedBy.j2 kj61 t937 t936 true))))))) else (some false))) = some r := H
     have A83 := Aside0.mk A830
     clear A830
     by_cases c84 : t938 < 0
     ·rw [if_pos c84] at H
      have c84b0 : decide (t938 < 0) = true := decide_eq_true c84
      clear c84
      obtain rfl := Option.some.inj H
      obtain ⟨Ao85, co85, eo85⟩ := Kd.R_slice HO_12.out
      subst eo85
      go_wp2_with (first | ((with_reducible refine gate_callee (f := 32) rfl ?_); refine goesL_ (some 89) rfl rfl Try.func32 (by kernel_rfl) rfl #[.slice Ao85 t916.length co85, .int .i64 1] rfl zal3 ?_; (with_reducible refine (laws_markIntS.calls kj61 (fun k_ => some k_ = (.slice Ao85 t916.length co85 : Value).ownBlock) (.slice Ao85 t916.length co85) t916 1 t936 t937 w _ ?side1 ?side2 A82.out).mono ?_); (case side1 => exact zal1); (case side2 => exact Kd.R_tight rfl HO_12.out); rintro e w86 ⟨rfl, hy0, hb, hkp⟩; refine ⟨_, rfl, ?_⟩; have n0_ := Aside0.mk (Kd.R_mono (ok' := fun k_ => some k_ ≠ (.slice Ao85 t916.length co85 : Value).ownBlock ∧ some k_ ≠ (.slice Ao41 t932.length co41 : Value).ownBlock) (Kd.R_keptB (HO_8.out) hkp (fun k_ hk_ hs_ => (hk_.1) hs_)) (fun k_ hk_ => ⟨hk_.1.1, hk_.1.2⟩)); have n1_ := Aside0.mk (Kd.R_reok rfl hy0 (fun k_ e_ => HO_12.out.1 k_ e_)); have n2_ := Aside0.mk (Kd.R_mono (ok' := fun k_ => some k_ ≠ (v902 : Value).ownBlock ∧ some k_ ≠ (.slice Ao85 t916.length co85 : Value).ownBlock) (Kd.R_keptB (HO_911002.out) hkp (fun k_ hk_ hs_ => (hk_.2) hs_)) (fun k_ hk_ => ⟨hk_.1.1, hk_.1.2⟩)); have n3_ := Aside0.mk (blk_kept zal2 hkp (fun hs_ => (fun e_ => (Kd.R_ne HO_12.out BK888.out (by decide)) e_) hs_)); have n4_ := Aside0.mk (blk_kept zal4 hkp (fun hs_ => (fun e_ => (Kd.R_ne HO_12.out BK889.out (by decide)) e_) hs_)); have n5_ := Aside0.mk (blk_kept zal7 hkp (fun hs_ => (fun e_ => (Kd.R_ne HO_12.out BK910.out (by decide)) e_) hs_)); have n6_ := Aside0.mk (hb); clear HO_8; clear HO_12; clear HO_911002; clear BK888; clear BK889; clear BK910; clear HB; have HO_8 := n0_; have HO_12 := n1_; have HO_911002 := n2_; have BK888 := n3_; have BK889 := n4_; have BK910 := n5_; have HB := n6_; clear n0_ n1_ n2_ n3_ n4_ n5_ n6_; (try clear hb); (try clear hkp); (try clear hy0)) | ((with_reducible refine gate_callee (f := 33) rfl ?_); refine goesL_ (some 92) rfl rfl Try.func33 (by kernel_rfl) rfl #[.slice Ao85 t937.length co85, .int .i64 1] rfl zal23 ?_; (with_reducible refine (laws_heldIntS.calls kj61 _ _ t937 1 t938 _ ?side1 ?side2 A83.out).mono ?_); (case side1 => exact zal14); (case side2 => exact zal37); rintro e w' ⟨rfl, ⟨nd, rfl⟩⟩; refine ⟨_, rfl, ?_⟩))
      go_ret
      exact ⟨zal17, zal1⟩
     rw [if_neg c84] at H
     have c84b0 : decide (t938 < 0) = false := decide_eq_false c84
     clear c84
     by_cases c87 : t938 = t936
     rotate_left
     ·rw [if_neg c87] at H
      have c87b0 : (t938 == t936) = false := beq_eq_false_iff_ne.mpr c87
      have c87b1 : (t938 != t936) = true := bne_iff_ne.mpr c87
      obtain rfl := Option.some.inj H
      obtain ⟨Ao112, co112, eo112⟩ := Kd.R_slice HO_12.out
      subst eo112
      go_wp2_with (first | ((with_reducible refine gate_callee (f := 32) rfl ?_); refine goesL_ (some 89) rfl rfl Try.func32 (by kernel_rfl) rfl #[.slice Ao112 t916.length co112, .int .i64 1] rfl zal3 ?_; (with_reducible refine (laws_markIntS.calls kj61 (fun k_ => some k_ = (.slice Ao112 t916.length co112 : Value).ownBlock) (.slice Ao112 t916.length co112) t916 1 t936 t937 w _ ?side1 ?side2 A82.out).mono ?_); (case side1 => exact zal1); (case side2 => exact Kd.R_tight rfl HO_12.out); rintro e w113 ⟨rfl, hy0, hb, hkp⟩; refine ⟨_, rfl, ?_⟩; have n0_ := Aside0.mk (Kd.R_mono (ok' := fun k_ => some k_ ≠ (.slice Ao112 t916.length co112 : Value).ownBlock ∧ some k_ ≠ (.slice Ao41 t932.length co41 : Value).ownBlock) (Kd.R_keptB (HO_8.out) hkp (fun k_ hk_ hs_ => (hk_.1) hs_)) (fun k_ hk_ => ⟨hk_.1.1, hk_.1.2⟩)); have n1_ := Aside0.mk (Kd.R_reok rfl hy0 (fun k_ e_ => HO_12.out.1 k_ e_)); have n2_ := Aside0.mk (Kd.R_mono (ok' := fun k_ => some k_ ≠ (v902 : Value).ownBlock ∧ some k_ ≠ (.slice Ao112 t916.length co112 : Value).ownBlock) (Kd.R_keptB (HO_911002.out) hkp (fun k_ hk_ hs_ => (hk_.2) hs_)) (fun k_ hk_ => ⟨hk_.1.1, hk_.1.2⟩)); have n3_ := Aside0.mk (blk_kept zal2 hkp (fun hs_ => (fun e_ => (Kd.R_ne HO_12.out BK888.out (by decide)) e_) hs_)); have n4_ := Aside0.mk (blk_kept zal4 hkp (fun hs_ => (fun e_ => (Kd.R_ne HO_12.out BK889.out (by decide)) e_) hs_)); have n5_ := Aside0.mk (blk_kept zal7 hkp (fun hs_ => (fun e_ => (Kd.R_ne HO_12.out BK910.out (by decide)) e_) hs_)); have n6_ := Aside0.mk (hb); clear HO_8; clear HO_12; clear HO_911002; clear BK888; clear BK889; clear BK910; clear HB; have HO_8 := n0_; have HO_12 := n1_; have HO_911002 := n2_; have BK888 := n3_; have BK889 := n4_; have BK910 := n5_; have HB := n6_; clear n0_ n1_ n2_ n3_ n4_ n5_ n6_; (try clear hb); (try clear hkp); (try clear hy0)) | ((with_reducible refine gate_callee (f := 33) rfl ?_); refine goesL_ (some 92) rfl rfl Try.func33 (by kernel_rfl) rfl #[.slice Ao112 t937.length co112, .int .i64 1] rfl zal23 ?_; (with_reducible refine (laws_heldIntS.calls kj61 _ _ t937 1 t938 _ ?side1 ?side2 A83.out).mono ?_); (case side1 => exact zal14); (case side2 => exact zal37); rintro e w' ⟨rfl, ⟨nd, rfl⟩⟩; refine ⟨_, rfl, ?_⟩))
      go_ret
      exact ⟨zal17, zal1⟩
     rw [if_pos c87] at H
     have c87b0 : (t938 == t936) = true := beq_iff_eq.mpr c87
     have c87b1 : (t938 != t936) = false := bne_eq_false_iff_eq.mpr c87
     clear c87
     replace H := Option.bind_eq_some_iff.mp H
     obtain ⟨⟨t939, t940, t941⟩, A880, H⟩ := H
     replace H : ((laws_toLeaper.f a1_0 a1_1).bind fun bt944 => ((laws_toIntS.f kj61 l2).bind fun t946 => ((impl_GuardedBy.f kj61 t939 t940 t941 bt944.1 bt944.2 t946).bind fun bt949 => ((laws_eqIntS.f kj61 bt949.1 t901).bind fun t953 => (if t953 = true then (laws_FnExactGuardedBy.j2 kj61 t937 t936 (bt949.2 != t904)) else (laws_FnExactGuardedBy.j2 kj61 t937 t936 true)))))) = some r := H
     have A88 := Aside0.mk A880
     clear A880
     replace H := Option.bind_eq_some_iff.mp H
     obtain ⟨⟨t944, t945⟩, A890, H⟩ := H
     replace H : ((laws_toIntS.f kj61 l2).bind fun t946 => ((impl_GuardedBy.f kj61 t939 t940 t941 t944 t945 t946).bind fun bt949 => ((laws_eqIntS.f kj61 bt949.1 t901).bind fun t953 => (if t953 = true then (laws_FnExactGuardedBy.j2 kj61 t937 t936 (bt949.2 != t904)) else (laws_FnExactGuardedBy.j2 kj61 t937 t936 true))))) = some r := H
     have A89 := Aside0.mk A890
     clear A890
     replace H := Option.bind_eq_some_iff.mp H
     obtain ⟨t946, A900, H⟩ := H
     replace H : ((impl_GuardedBy.f kj61 t939 t940 t941 t944 t945 t946).bind fun bt949 => ((laws_eqIntS.f kj61 bt949.1 t901).bind fun t953 => (if t953 = true then (laws_FnExactGuardedBy.j2 kj61 t937 t936 (bt949.2 != t904)) else (laws_FnExactGuardedBy.j2 kj61 t937 t936 true)))) = some r := H
     have A90 := Aside0.mk A900
     clear A900
     replace H := Option.bind_eq_some_iff.mp H
     obtain ⟨⟨t949, t952⟩, A910, H⟩ := H
     replace H : ((laws_eqIntS.f kj61 t949 t901).bind fun t953 => (if t953 = true then (laws_FnExactGuardedBy.j2 kj61 t937 t936 (t952 != t904)) else (laws_FnExactGuardedBy.j2 kj61 t937 t936 true))) = some r := H
     have A91 := Aside0.mk A910
     clear A910
     have HC92 := Aside0.mk H
     clear H
     obtain ⟨Ao93, co93, eo93⟩ := Kd.R_slice HO_12.out
     subst eo93
     try go_wp2_with (first | ((with_reducible refine gate_callee (f := 32) rfl ?_); refine goesL_ (some 89) rfl rfl Try.func32 (by kernel_rfl) rfl #[.slice Ao93 t916.length co93, .int .i64 1] rfl zal3 ?_; (with_reducible refine (laws_markIntS.calls kj61 (fun k_ => some k_ = (.slice Ao93 t916.length co93 : Value).ownBlock) (.slice Ao93 t916.length co93) t916 1 t936 t937 w _ ?side1 ?side2 A82.out).mono ?_); (case side1 => exact zal1); (case side2 => exact Kd.R_tight rfl HO_12.out); rintro e w94 ⟨rfl, hy0, hb, hkp⟩; refine ⟨_, rfl, ?_⟩; have n0_ := Aside0.mk (Kd.R_mono (ok' := fun k_ => some k_ ≠ (.slice Ao93 t916.length co93 : Value).ownBlock ∧ some k_ ≠ (.slice Ao41 t932.length co41 : Value).ownBlock) (Kd.R_keptB (HO_8.out) hkp (fun k_ hk_ hs_ => (hk_.1) hs_)) (fun k_ hk_ => ⟨hk_.1.1, hk_.1.2⟩)); have n1_ := Aside0.mk (Kd.R_reok rfl hy0 (fun k_ e_ => HO_12.out.1 k_ e_)); have n2_ := Aside0.mk (Kd.R_mono (ok' := fun k_ => some k_ ≠ (v902 : Value).ownBlock ∧ some k_ ≠ (.slice Ao93 t916.length co93 : Value).ownBlock) (Kd.R_keptB (HO_911002.out) hkp (fun k_ hk_ hs_ => (hk_.2) hs_)) (fun k_ hk_ => ⟨hk_.1.1, hk_.1.2⟩)); have n3_ := Aside0.mk (blk_kept zal2 hkp (fun hs_ => (fun e_ => (Kd.R_ne HO_12.out BK888.out (by decide)) e_) hs_)); have n4_ := Aside0.mk (blk_kept zal4 hkp (fun hs_ => (fun e_ => (Kd.R_ne HO_12.out BK889.out (by decide)) e_) hs_)); have n5_ := Aside0.mk (blk_kept zal7 hkp (fun hs_ => (fun e_ => (Kd.R_ne HO_12.out BK910.out (by decide)) e_) hs_)); have n6_ := Aside0.mk (hb); clear HO_8; clear HO_12; clear HO_911002; clear BK888; clear BK889; clear BK910; clear HB; have HO_8 := n0_; have HO_12 := n1_; have HO_911002 := n2_; have BK888 := n3_; have BK889 := n4_; have BK910 := n5_; have HB := n6_; clear n0_ n1_ n2_ n3_ n4_ n5_ n6_; (try clear hb); (try clear hkp); (try clear hy0)) | ((with_reducible refine gate_callee (f := 33) rfl ?_); refine goesL_ (some 92) rfl rfl Try.func33 (by kernel_rfl) rfl #[.slice Ao93 t937.length co93, .int .i64 1] rfl zal23 ?_; (with_reducible refine (laws_heldIntS.calls kj61 _ _ t937 1 t938 _ ?side1 ?side2 A83.out).mono ?_); (case side1 => exact zal14); (case side2 => exact zal37); rintro e w' ⟨rfl, ⟨nd, rfl⟩⟩; refine ⟨_, rfl, ?_⟩))
     (try (rw [drewN_self w94]; generalize hq_ : World.drewN w94 _ = w94; have n0_ : Aside0 (Kd.R (Kd.int .i64) 3 w94 w.heap.size (fun k_ => (some k_ ≠ (v902 : Value).ownBlock ∧ some k_ ≠ (.slice Ao41 t932.length co41 : Value).ownBlock)) (.slice Ao93 t916.length co93) t937) := ⟨by rw [← hq_]; exact zal9⟩; have n1_ : Aside0 (Kd.R (Kd.int .i64) 3 w94 w.heap.size (fun k_ => (some k_ ≠ (.slice Ao93 t916.length co93 : Value).ownBlock ∧ some k_ ≠ (.slice Ao41 t932.length co41 : Value).ownBlock)) v902 t901) := ⟨by rw [← hq_]; exact zal10⟩; have n2_ : Aside0 (Kd.R (Kd.int .i64) 3 w94 w.heap.size (fun k_ => (some k_ ≠ (v902 : Value).ownBlock ∧ some k_ ≠ (.slice Ao93 t916.length co93 : Value).ownBlock)) (.slice Ao41 t932.length co41) t932) := ⟨by rw [← hq_]; exact zal8⟩; have n3_ : Aside0 (w94.heap[gb888]? = some (.cells #[.int .i64 a0_0, .int .i64 a0_1, .slice A0_2 l0_2.length c0_2] 24 (0, 0))) := ⟨by rw [← hq_]; exact zal2⟩; have n4_ : Aside0 (w94.heap[gb889]? = some (.cells #[.int .i64 a1_0, .int .i64 a1_1] 26 (0, 0))) := ⟨by rw [← hq_]; exact zal4⟩; have n5_ : Aside0 (w94.heap[gb910]? = some (.cells #[.int .i64 t905, .int .i64 t906, .slice Ao41 t932.length co41] 30 (0, 0))) := ⟨by rw [← hq_]; exact zal7⟩; have n6_ : Aside0 (Below w.heap.size w w94) := ⟨by rw [← hq_]; exact zal1⟩; clear HO_12 HO_8 HO_911002 BK888 BK889 BK910 HB hq_; have HO_12 := n0_; have HO_8 := n1_; have HO_911002 := n2_; have BK888 := n3_; have BK889 := n4_; have BK910 := n5_; have HB := n6_; clear n0_ n1_ n2_ n3_ n4_ n5_ n6_))
     have n0_ := Aside0.mk (Kd.R_drew HO_8.out)
     have n1_ := Aside0.mk (Kd.R_drew HO_12.out)
     have n2_ := Aside0.mk (Kd.R_drew HO_911002.out)
     have n3_ := Aside0.mk (blk_drew BK888.out)
     have n4_ := Aside0.mk (blk_drew BK889.out)
     have n5_ := Aside0.mk (blk_drew BK910.out)
     have n6_ := Aside0.mk (below_drew1 HB.out)
     clear HO_8
     clear HO_12
     clear HO_911002
     clear BK888
     clear BK889
     clear BK910
     clear HB
     have HO_8 := n0_
     have HO_12 := n1_
     have HO_911002 := n2_
     have BK888 := n3_
     have BK889 := n4_
     have BK910 := n5_
     have HB := n6_
     clear n0_ n1_ n2_ n3_ n4_ n5_ n6_
     refine start_ (n := 12) (S := fun w' => w'.cell? ⟨gb888, 0, none⟩ = some (.int .i64 a0_0) ∧ w'.cell? ⟨gb888, 1, none⟩ = some (.int .i64 a0_1) ∧ w'.cell? ⟨gb888, 2, none⟩ = some (.slice A0_2 l0_2.length c0_2) ∧ w'.cell? ⟨gb889, 0, none⟩ = some (.int .i64 a1_0) ∧ w'.cell? ⟨gb889, 1, none⟩ = some (.int .i64 a1_1)) (ds := []) #[false, false, false, false, false, false, false, false, false, false, false, false] (by kernel_rfl) rfl rfl ⟨(blk_cell BK888.out 0).trans rfl, (blk_cell BK888.out 1).trans rfl, (blk_cell BK888.out 2).trans rfl, (blk_cell BK889.out 0).trans rfl, (blk_cell BK889.out 1).trans rfl⟩ (fun hHeld => ?_); refine with_tabW laws_FnExactGuardedBy.tab30 laws_FnExactGuardedBy.bits30 (fun HT_ HW_ => ?_)
     generalize w94.drew = w95 at HO_8 HO_12 HO_911002 BK888 BK889 BK910 HB hHeld ⊢
     refine pure_ (i := 4) (N := some 103) (v := ?_) (a' := ?_) #[false, false, false, false, true, false, false, false, false, false, false, false] rfl rfl (any_of HT_.out (by kernel_rfl)) (fun _ _ _ h => h) (Or.inl ⟨by rfl, ?_⟩) ?_ ?_
     rotate_left
     ·intro w'
      go_simp
      with_reducible rfl
     rotate_left
     ·simp only [Act.put, List.setIfInBounds_toArray, List.set_cons_zero, List.set_cons_succ, i64_w, i32_w]
      rfl
     refine take_ (i := 0) (N := some 99) (v := ?_) (a' := ?_) #[true, false, false, false, true, false, false, false, false, false, false, false] rfl rfl (take_ofW HT_.out HW_.out (by kernel_rfl)) (fun _ _ _ h => h) (Or.inl ⟨by rfl, ?_⟩) hHeld ?_ ?_
     rotate_left
     ·rintro w' ⟨s0, s1, s2, s3, s4⟩
      go_simp
      with_reducible rfl
     rotate_left
     ·simp only [Act.put, List.setIfInBounds_toArray, List.set_cons_zero, List.set_cons_succ, i64_w, i32_w]
      rfl
     refine take_ (i := 2) (N := some 101) (v := ?_) (a' := ?_) #[true, false, true, false, true, false, false, false, false, false, false, false] rfl rfl (take_ofW HT_.out HW_.out (by kernel_rfl)) (fun _ _ _ h => h) (Or.inl ⟨by rfl, ?_⟩) hHeld ?_ ?_
     rotate_left
     ·rintro w' ⟨s0, s1, s2, s3, s4⟩
      go_simp
      with_reducible rfl
     rotate_left
     ·simp only [Act.put, List.setIfInBounds_toArray, List.set_cons_zero, List.set_cons_succ, i64_w, i32_w]
      rfl
     refine one_ (i := 1) (N := some 100) #[true, true, true, false, true, false, false, false, false, false, false, false] rfl rfl (one_of HT_.out (by kernel_rfl)) (by decide) (fun K hK => ?_)
     refine goes_ Try.func17 (by kernel_rfl) rfl #[.agg #[.int .i64 a0_0, .int .i64 a0_1, .slice A0_2 l0_2.length c0_2]] (by rfl) rfl rfl zal3 ?_
     with_reducible refine (laws_toBoard.calls kj61 a0_0 a0_1 _ _ l0_2 t939 t940 t941 _ ?side1 ?side2 A88.out).mono ?_
     (case side1 => exact zal13)
     (case side2 => exact HC0_2.out)
     rintro e w96 ⟨v942, rfl, ho0, hb⟩
     refine ⟨_, rfl, ?_⟩
     have n0_ := Aside0.mk (Kd.R_elder' zal10 (Kd.R_base ho0) hb)
     have n1_ := Aside0.mk (Kd.R_elder' zal9 (Kd.R_base ho0) hb)
     have n2_ := Aside0.mk (Kd.R_elder' zal8 (Kd.R_base ho0) hb)
     have n3_ := Aside0.mk (Kd.R_lower (Kd.R_new' (Kd.R_new' (Kd.R_new' ho0 (Kd.R_lt zal10)) (Kd.R_lt zal9)) (Kd.R_lt zal8)) (below_size zal1))
     have n4_ := Aside0.mk (blk_below (g := gb888) (o := .cells #[.int .i64 a0_0, .int .i64 a0_1, .slice A0_2 l0_2.length c0_2] 24 (0, 0)) zal2 hb)
     have n5_ := Aside0.mk (blk_below (g := gb889) (o := .cells #[.int .i64 a1_0, .int .i64 a1_1] 26 (0, 0)) zal4 hb)
     have n6_ := Aside0.mk (blk_below (g := gb910) (o := .cells #[.int .i64 t905, .int .i64 t906, .slice Ao41 t932.length co41] 30 (0, 0)) zal7 hb)
     have n7_ := Aside0.mk (below_step zal1 hb)
     clear HO_8
     clear HO_12
     clear HO_911002
     clear BK888
     clear BK889
     clear BK910
     clear HB
     have HO_8 := n0_
     have HO_12 := n1_
     have HO_911002 := n2_
     have HO943 := n3_
     have BK888 := n4_
     have BK889 := n5_
     have BK910 := n6_
     have HB := n7_
     clear n0_ n1_ n2_ n3_ n4_ n5_ n6_ n7_
     (try clear hb)
     (try clear hb2)
     (try clear hk)
     (try clear hi)
     (try clear ho0)
     (try clear hna_)
     (try clear hnb_)
     refine hK.out _ _ ⟨(blk_cell BK888.out 0).trans rfl, (blk_cell BK888.out 1).trans rfl, (blk_cell BK888.out 2).trans rfl, (blk_cell BK889.out 0).trans rfl, (blk_cell BK889.out 1).trans rfl⟩ (fun hHeld => ?_)
     clear hK K
     refine norm_ (a' := ?_) ?_ ?_
     rotate_left
     ·show Act.put _ (some 100) _ = _
      simp only [Act.put, List.setIfInBounds_toArray, List.set_cons_zero, List.set_cons_succ, i64_w, i32_w]
      rfl
     refine one_ (i := 3) (N := some 102) #[true, true, true, true, true, false, false, false, false, false, false, false] rfl rfl (one_of HT_.out (by kernel_rfl)) (by decide) (fun K hK => ?_)
     refine goes_ Try.func18 (by kernel_rfl) rfl #[.agg #[.int .i64 a1_0, .int .i64 a1_1]] (by rfl) rfl rfl zal3 ?_
     with_reducible refine (laws_toLeaper.calls a1_0 a1_1 t944 t945 _ A89.out).mono ?_
     rintro e w97 ⟨rfl, hb⟩
     refine ⟨_, rfl, ?_⟩
     have n0_ := Aside0.mk (Kd.R_below zal10 hb)
     have n1_ := Aside0.mk (Kd.R_below zal9 hb)
     have n2_ := Aside0.mk (Kd.R_below zal8 hb)
     have n3_ := Aside0.mk (Kd.R_below zal28 hb)
     have n4_ := Aside0.mk (blk_below (g := gb888) (o := .cells #[.int .i64 a0_0, .int .i64 a0_1, .slice A0_2 l0_2.length c0_2] 24 (0, 0)) zal2 hb)
     have n5_ := Aside0.mk (blk_below (g := gb889) (o := .cells #[.int .i64 a1_0, .int .i64 a1_1] 26 (0, 0)) zal4 hb)
     have n6_ := Aside0.mk (blk_below (g := gb910) (o := .cells #[.int .i64 t905, .int .i64 t906, .slice Ao41 t932.length co41] 30 (0, 0)) zal7 hb)
     have n7_ := Aside0.mk (below_step zal1 hb)
     clear HO_8
     clear HO_12
     clear HO_911002
     clear HO943
     clear BK888
     clear BK889
     clear BK910
     clear HB
     have HO_8 := n0_
     have HO_12 := n1_
     have HO_911002 := n2_
     have HO943 := n3_
     have BK888 := n4_
     have BK889 := n5_
     have BK910 := n6_
     have HB := n7_
     clear n0_ n1_ n2_ n3_ n4_ n5_ n6_ n7_
     (try clear hb)
     (try clear hb2)
     (try clear hk)
     (try clear hi)
     (try clear hna_)
     (try clear hnb_)
     refine hK.out _ _ ⟨(blk_cell BK888.out 0).trans rfl, (blk_cell BK888.out 1).trans rfl, (blk_cell BK888.out 2).trans rfl, (blk_cell BK889.out 0).trans rfl, (blk_cell BK889.out 1).trans rfl⟩ (fun hHeld => ?_)
     clear hK K
     refine norm_ (a' := ?_) ?_ ?_
     rotate_left
     ·show Act.put _ (some 102) _ = _
      simp only [Act.put, List.setIfInBounds_toArray, List.set_cons_zero, List.set_cons_succ, i64_w, i32_w]
      rfl
     refine one_ (i := 5) (N := some 104) #[true, true, true, true, true, true, false, false, false, false, false, false] rfl rfl (one_of HT_.out (by kernel_rfl)) (by decide) (fun K hK => ?_)
     refine goes_ Try.func19 (by kernel_rfl) rfl #[.slice A2 l2.length c2] (by rfl) rfl rfl zal3 ?_
     with_reducible refine (laws_toIntS.calls kj61 _ _ l2 t946 _ ?side1 ?side2 A90.out).mono ?_
     (case side1 => exact zal21)
     (case side2 => exact HC2.out)
     rintro e w98 ⟨v947, rfl, ho0, hb⟩
     refine ⟨_, rfl, ?_⟩
     have n0_ := Aside0.mk (Kd.R_elder' zal10 (Kd.R_base ho0) hb)
     have n1_ := Aside0.mk (Kd.R_elder' zal9 (Kd.R_base ho0) hb)
     have n2_ := Aside0.mk (Kd.R_elder' zal8 (Kd.R_base ho0) hb)
     have n3_ := Aside0.mk (Kd.R_elder' zal28 (Kd.R_base ho0) hb)
     have n4_ := Aside0.mk (Kd.R_lower (Kd.R_new' (Kd.R_new' (Kd.R_new' (Kd.R_new' ho0 (Kd.R_lt zal10)) (Kd.R_lt zal9)) (Kd.R_lt zal8)) (Kd.R_lt zal28)) (below_size zal1))
     have n5_ := Aside0.mk (blk_below (g := gb888) (o := .cells #[.int .i64 a0_0, .int .i64 a0_1, .slice A0_2 l0_2.length c0_2] 24 (0, 0)) zal2 hb)
     have n6_ := Aside0.mk (blk_below (g := gb889) (o := .cells #[.int .i64 a1_0, .int .i64 a1_1] 26 (0, 0)) zal4 hb)
     have n7_ := Aside0.mk (blk_below (g := gb910) (o := .cells #[.int .i64 t905, .int .i64 t906, .slice Ao41 t932.length co41] 30 (0, 0)) zal7 hb)
     have n8_ := Aside0.mk (below_step zal1 hb)
     clear HO_8
     clear HO_12
     clear HO_911002
     clear HO943
     clear BK888
     clear BK889
     clear BK910
     clear HB
     have HO_8 := n0_
     have HO_12 := n1_
     have HO_911002 := n2_
     have HO943 := n3_
     have HO948 := n4_
     have BK888 := n5_
     have BK889 := n6_
     have BK910 := n7_
     have HB := n8_
     clear n0_ n1_ n2_ n3_ n4_ n5_ n6_ n7_ n8_
     (try clear hb)
     (try clear hb2)
     (try clear hk)
     (try clear hi)
     (try clear ho0)
     (try clear hna_)
     (try clear hnb_)
     obtain ⟨Ao99, co99, eo99⟩ := Kd.R_slice HO943.out
     (first | subst eo99 | (injection eo99 with f1_ f2_ f3_; have f4_ := f1_.symm; have f5_ := f3_.symm; clear f1_ f2_ f3_; subst f4_; subst f5_))
     obtain ⟨Ao100, co100, eo100⟩ := Kd.R_slice HO948.out
     (first | subst eo100 | (injection eo100 with f1_ f2_ f3_; have f4_ := f1_.symm; have f5_ := f3_.symm; clear f1_ f2_ f3_; subst f4_; subst f5_))
     refine hK.out _ _ ⟨(blk_cell BK888.out 0).trans rfl, (blk_cell BK888.out 1).trans rfl, (blk_cell BK888.out 2).trans rfl, (blk_cell BK889.out 0).trans rfl, (blk_cell BK889.out 1).trans rfl⟩ (fun hHeld => ?_)
     clear hK K
     refine norm_ (a' := ?_) ?_ ?_
     rotate_left
     ·show Act.put _ (some 104) _ = _
      simp only [Act.put, List.setIfInBounds_toArray, List.set_cons_zero, List.set_cons_succ, i64_w, i32_w]
      rfl
     refine one_ (i := 6) (N := some 105) #[true, true, true, true, true, true, true, false, false, false, false, false] rfl rfl (one_of HT_.out (by kernel_rfl)) (by decide) (fun K hK => ?_)
     refine goes_ Try.func39 (by kernel_rfl) rfl #[.agg #[.int .i64 t939, .int .i64 t940, .slice Ao99 t941.length co99], .agg #[.int .i64 t944, .int .i64 t945], .slice Ao100 t946.length co100] (by rfl) rfl rfl zal3 ?_
     with_reducible refine (impl_GuardedBy.calls kj61 t939 t940 _ _ t941 t944 t945 _ _ t946 t949 t952 _ ?side1 ?side2 ?side3 ?side4 A91.out).mono ?_
     (case side1 => repeat (first | exact (Kd.R_reads' HO943.out).2.2 | (with_reducible refine Kd.C_alloc ?_ _) | (with_reducible refine Kd.C_drewN ?_ _) | (with_reducible refine Kd.C_drew ?_)))
     (case side2 => exact (Kd.R_reads' HO943.out).2.1)
     (case side3 => repeat (first | exact (Kd.R_reads' HO948.out).2.2 | (with_reducible refine Kd.C_alloc ?_ _) | (with_reducible refine Kd.C_drewN ?_ _) | (with_reducible refine Kd.C_drew ?_)))
     (case side4 => exact (Kd.R_reads' HO948.out).2.1)
     rintro e w101 ⟨v950, rfl, ho0, hb⟩
     refine ⟨_, rfl, ?_⟩
     have n0_ := Aside0.mk (Kd.R_elder' zal10 (Kd.R_base ho0) hb)
     have n1_ := Aside0.mk (Kd.R_elder' zal9 (Kd.R_base ho0) hb)
     have n2_ := Aside0.mk (Kd.R_elder' zal8 (Kd.R_base ho0) hb)
     have n3_ := Aside0.mk (Kd.R_elder' zal28 (Kd.R_base ho0) hb)
     have n4_ := Aside0.mk (Kd.R_elder' (by (with_reducible repeat (first | apply Kd.R_alloc | apply Kd.R_drewN | apply Kd.R_drew)); exact HO948.out) (Kd.R_base ho0) hb)
     have n5_ := Aside0.mk (Kd.R_lower (Kd.R_new' (Kd.R_new' (Kd.R_new' (Kd.R_new' (Kd.R_new' ho0 (Kd.R_lt zal10)) (Kd.R_lt zal9)) (Kd.R_lt zal8)) (Kd.R_lt zal28)) (Kd.R_lt (by (with_reducible repeat (first | apply Kd.R_alloc | apply Kd.R_drewN | apply Kd.R_drew)); exact HO948.out))) (below_size zal1))
     have n6_ := Aside0.mk (blk_below (g := gb888) (o := .cells #[.int .i64 a0_0, .int .i64 a0_1, .slice A0_2 l0_2.length c0_2] 24 (0, 0)) zal2 hb)
     have n7_ := Aside0.mk (blk_below (g := gb889) (o := .cells #[.int .i64 a1_0, .int .i64 a1_1] 26 (0, 0)) zal4 hb)
     have n8_ := Aside0.mk (blk_below (g := gb910) (o := .cells #[.int .i64 t905, .int .i64 t906, .slice Ao41 t932.length co41] 30 (0, 0)) zal7 hb)
     have n9_ := Aside0.mk (below_step zal1 hb)
     clear HO_8
     clear HO_12
     clear HO_911002
     clear HO943
     clear HO948
     clear BK888
     clear BK889
     clear BK910
     clear HB
     have HO_8 := n0_
     have HO_12 := n1_
     have HO_911002 := n2_
     have HO943 := n3_
     have HO948 := n4_
     have HO951 := n5_
     have BK888 := n6_
     have BK889 := n7_
     have BK910 := n8_
     have HB := n9_
     clear n0_ n1_ n2_ n3_ n4_ n5_ n6_ n7_ n8_ n9_
     (try clear hb)
     (try clear hb2)
     (try clear hk)
     (try clear hi)
     (try clear ho0)
     (try clear hna_)
     (try clear hnb_)
     refine hK.out _ _ ⟨(blk_cell BK888.out 0).trans rfl, (blk_cell BK888.out 1).trans rfl, (blk_cell BK888.out 2).trans rfl, (blk_cell BK889.out 0).trans rfl, (blk_cell BK889.out 1).trans rfl⟩ (fun hHeld => ?_)
     clear hK K
     refine norm_ (a' := ?_) ?_ ?_
     rotate_left
     ·show Act.put _ (some 105) _ = _
      simp only [Act.put, List.setIfInBounds_toArray, List.set_cons_zero, List.set_cons_succ, i64_w, i32_w]
      rfl
     refine pure_ (i := 7) (N := some 98) (v := ?_) (a' := ?_) #[true, true, true, true, true, true, true, true, false, false, false, false] rfl rfl (any_of HT_.out (by kernel_rfl)) (fun _ _ _ h => h) (Or.inl ⟨by rfl, ?_⟩) ?_ ?_
     rotate_left
     ·intro w'
      go_simp
      with_reducible rfl
     rotate_left
     ·simp only [Act.put, List.setIfInBounds_toArray, List.set_cons_zero, List.set_cons_succ, i64_w, i32_w]
      rfl
     refine pure_ (i := 8) (N := some 106) (v := ?_) (a' := ?_) #[true, true, true, true, true, true, true, true, true, false, false, false] rfl rfl (any_of HT_.out (by kernel_rfl)) (fun _ _ _ h => h) (Or.inl ⟨by rfl, ?_⟩) ?_ ?_
     rotate_left
     ·intro w'
      go_simp
      with_reducible rfl
     rotate_left
     ·simp only [Act.put, List.setIfInBounds_toArray, List.set_cons_zero, List.set_cons_succ, i64_w, i32_w]
      rfl
     refine pure_ (i := 9) (N := some 107) (v := ?_) (a' := ?_) #[true, true, true, true, true, true, true, true, true, true, false, false] rfl rfl (any_of HT_.out (by kernel_rfl)) (fun _ _ _ h => h) (Or.inl ⟨by rfl, ?_⟩) ?_ ?_
     rotate_left
     ·intro w'
      go_simp
      with_reducible rfl
     rotate_left
     ·simp only [Act.put, List.setIfInBounds_toArray, List.set_cons_zero, List.set_cons_succ, i64_w, i32_w]
      rfl
     refine pure_ (i := 10) (N := some 17) (v := ?_) (a' := ?_) #[true, true, true, true, true, true, true, true, true, true, true, false] rfl rfl (any_of HT_.out (by kernel_rfl)) (fun _ _ _ h => h) (Or.inl ⟨by rfl, ?_⟩) ?_ ?_
     rotate_left
     ·intro w'
      go_simp
      with_reducible rfl
     rotate_left
     ·simp only [Act.put, List.setIfInBounds_toArray, List.set_cons_zero, List.set_cons_succ, i64_w, i32_w]
      rfl
     refine pure_ (i := 11) (N := some 18) (v := ?_) (a' := ?_) #[true, true, true, true, true, true, true, true, true, true, true, true] rfl rfl (any_of HT_.out (by kernel_rfl)) (fun _ _ _ h => h) (Or.inl ⟨by rfl, ?_⟩) ?_ ?_
     rotate_left
     ·intro w'
      go_simp
      with_reducible rfl
     rotate_left
     ·simp only [Act.put, List.setIfInBounds_toArray, List.set_cons_zero, List.set_cons_succ, i64_w, i32_w]
      rfl
     refine done_ (done_of HT_.out (by kernel_rfl)) ?_
     go_upto_region 31 with (fail)
     go_cut [116] (fun v116 wc => ∃ (kq : Nat) (x116_91 : Bool), v116 = .bool x116_91 ∧ Aside0 (laws_FnExactGuardedBy.j2 kq t937 t936 x116_91 = some r) ∧ Aside0 (kq ≤ kj61) ∧ Aside0 (Kd.R (Kd.int .i64) 3 wc w.heap.size (fun k_ => some k_ ≠ ((.slice Ao41 t932.length co41) : Value).ownBlock) (.slice Ao93 t916.length co93) t937) ∧ Aside0 (Kd.R (Kd.int .i64) 3 wc w.heap.size (fun k_ => some k_ ≠ ((.slice Ao93 t916.length co93) : Value).ownBlock) (.slice Ao41 t932.length co41) t932) ∧ Aside0 (wc.heap[gb888]? = some (.cells #[.int .i64 a0_0, .int .i64 a0_1, (.slice A0_2 l0_2.length c0_2)] 24 (0, 0))) ∧ Aside0 (wc.heap[gb889]? = some (.cells #[.int .i64 a1_0, .int .i64 a1_1] 26 (0, 0))) ∧ Aside0 (wc.heap[gb910]? = some (.cells #[.int .i64 t905, .int .i64 t906, (.slice Ao41 t932.length co41)] 30 (0, 0))) ∧ Aside0 (Below w.heap.size w wc))
     case first =>
      have H := HC92.out
      clear HC92
      replace H := Option.bind_eq_some_iff.mp H
      obtain ⟨t953, A1020, H⟩ := H
      replace H : (if t953 = true then (laws_FnExactGuardedBy.j2 kj61 t937 t936 (t952 != t904)) else (laws_FnExactGuardedBy.j2 kj61 t937 t936 true)) = some r := H
      have A102 := Aside0.mk A1020
      clear A1020
      by_cases c103 : t953 = true
      ·subst c103
       have H1 : (laws_FnExactGuardedBy.j2 kj61 t937 t936 (t952 != t904)) = some r := by rw [if_pos rfl] at H; exact H
       clear H
       have H := H1
       clear H1
       have H' := Aside0.mk H
       clear H
       obtain ⟨Ao104, co104, eo104⟩ := Kd.R_slice HO951.out
       subst eo104
       obtain ⟨Ao105, co105, eo105⟩ := Kd.R_slice HO_8.out
       subst eo105
       go_wp2_with (first | ((with_reducible refine gate_callee (f := 22) rfl ?_); refine goesL_ (some 110) rfl rfl Try.func22 (by kernel_rfl) rfl #[.slice Ao104 t949.length co104, .slice Ao105 t901.length co105] rfl zal3 ?_; (with_reducible refine (laws_eqIntS.calls kj61 _ _ t949 _ _ t901 true _ ?side1 ?side2 ?side3 ?side4 A102.out).mono ?_); (case side1 => exact zal45); (case side2 => exact (Kd.R_reads' HO951.out).2.1); (case side3 => exact zal22); (case side4 => exact (Kd.R_reads' HO_8.out).2.1); rintro e w' ⟨rfl, ⟨nd, rfl⟩⟩; refine ⟨_, rfl, ?_⟩))
       go_meet
       case rel => exact ⟨_, ((t952 != t904)), zal35, H', ⟨by have := HJ21.out; have := HJ61.out; first | omega | exact Nat.le_refl _⟩, ⟨zal39⟩, ⟨zal38⟩, ⟨zal51⟩, ⟨zal50⟩, ⟨zal49⟩, ⟨zal1⟩⟩
      replace c103 := Bool.eq_false_iff.mpr c103
      subst c103
      have H1 : (laws_FnExactGuardedBy.j2 kj61 t937 t936 true) = some r := by rw [if_neg (show ¬ (false = true) by decide)] at H; exact H
      clear H
      have H := H1
      clear H1
      have H' := Aside0.mk H
      clear H
      obtain ⟨Ao106, co106, eo106⟩ := Kd.R_slice HO951.out
      subst eo106
      obtain ⟨Ao107, co107, eo107⟩ := Kd.R_slice HO_8.out
      subst eo107
      go_wp2_with (first | ((with_reducible refine gate_callee (f := 22) rfl ?_); refine goesL_ (some 110) rfl rfl Try.func22 (by kernel_rfl) rfl #[.slice Ao106 t949.length co106, .slice Ao107 t901.length co107] rfl zal3 ?_; (with_reducible refine (laws_eqIntS.calls kj61 _ _ t949 _ _ t901 false _ ?side1 ?side2 ?side3 ?side4 A102.out).mono ?_); (case side1 => exact zal45); (case side2 => exact (Kd.R_reads' HO951.out).2.1); (case side3 => exact zal22); (case side4 => exact (Kd.R_reads' HO_8.out).2.1); rintro e w' ⟨rfl, ⟨nd, rfl⟩⟩; refine ⟨_, rfl, ?_⟩))
      go_meet
      case rel => exact ⟨_, (true), zal35, H', ⟨by have := HJ21.out; have := HJ61.out; first | omega | exact Nat.le_refl _⟩, ⟨zal39⟩, ⟨zal38⟩, ⟨zal51⟩, ⟨zal50⟩, ⟨zal49⟩, ⟨zal1⟩⟩
     case rest =>
      clear HC92
      try clear c1; try clear c2; try clear p2; try clear c3; try clear c4; try clear c4b0; try clear c4b1; try clear c5; try clear c6; try clear c7; try clear c8; try clear c8b0; try clear c10; try clear c11; try clear c15; try clear c17; try clear c18; try clear c19; try clear c21; try clear c22; try clear c25; try clear c31; try clear c32; try clear c33; try clear c38; try clear c39; try clear c48; try clear c53; try clear c56; try clear c59; try clear c69; try clear c70; try clear c74; try clear c74b0; try clear c76; try clear c81; try clear c84; try clear c84b0; try clear c87; try clear c87b0; try clear c87b1
      try clear c103; try clear hcz12_0; try clear hcz12_1; try clear hcz12_2; try clear hcz26_0; try clear hcz26_1; try clear hcz26_2; try clear hcz35_0; try clear hcz35_1; try clear hcz35_2; try clear hcz40_0; try clear hcz40_1; try clear hcz40_2; try clear hcz71_0; try clear hcz71_1; try clear hcz71_2; try clear hfz12_0; try clear hfz12_1; try clear hfz12_2; try clear hfz26_0; try clear hfz26_1; try clear hfz26_2; try clear hfz35_0; try clear hfz35_1; try clear hfz35_2; try clear hfz40_0; try clear hfz40_1; try clear hfz40_2; try clear hfz71_0; try clear hfz71_1; try clear hfz71_2; try clear p2
      obtain ⟨kq, x116_91, rfl, HA, HJ91, HO_12, HO_911002, BK888, BK889, BK910, HB⟩ := hcut
      have hl12_91 := (Kd.R_reads' HO_12.out).1
      rw [hl12_91] at HO_12
      (try simp only [hl12_91])
      (try simp only [hl12_91] at BK888)
      (try simp only [hl12_91] at BK889)
      (try simp only [hl12_91] at BK910)
      (try simp only [hl12_91] at HO_911002)
      cases kq with
      | zero => exact absurd HA.out (by simp [laws_FnExactGuardedBy.j2])
      | succ kj91 =>
       have H := HA.out
       clear HA
       simp only [laws_FnExactGuardedBy.j2] at H
       by_cases c108 : x116_91 = true
       ·subst c108
        have H1 : (some false) = some r := by rw [if_pos rfl] at H; exact H
        clear H
        have H := H1
        clear H1
        obtain rfl := Option.some.inj H
        go_wp2
        go_ret
        exact ⟨zal17, zal1⟩
       replace c108 := Bool.eq_false_iff.mpr c108
       subst c108
       have H1 : ((laws_heldIntS.f kj91 t937 1).bind fun t954 => (if t954 < 0 then (some false) else (if t954 = t936 then (some true) else (some false)))) = some r := by rw [if_neg (show ¬ (false = true) by decide)] at H; exact H
       clear H
       have H := H1
       clear H1
       replace H := Option.bind_eq_some_iff.mp H
       obtain ⟨t954, A1090, H⟩ := H
       replace H : (if t954 < 0 then (some false) else (if t954 = t936 then (some true) else (some false))) = some r := H
       have A109 := Aside0.mk A1090
       clear A1090
       by_cases c110 : t954 < 0
       ·rw [if_pos c110] at H
        have c110b0 : decide (t954 < 0) = true := decide_eq_true c110
        clear c110
        obtain rfl := Option.some.inj H
        go_wp2_with (first | ((with_reducible refine gate_callee (f := 33) rfl ?_); refine goesL_ (some 119) rfl rfl Try.func33 (by kernel_rfl) rfl #[.slice Ao93 t937.length co93, .int .i64 1] rfl zal3 ?_; (with_reducible refine (laws_heldIntS.calls kj91 _ _ t937 1 t954 _ ?side1 ?side2 A109.out).mono ?_); (case side1 => exact zal14); (case side2 => exact (Kd.R_reads' HO_12.out).2.1); rintro e w' ⟨rfl, ⟨nd, rfl⟩⟩; refine ⟨_, rfl, ?_⟩))
        go_ret
        exact ⟨zal17, zal1⟩
       rw [if_neg c110] at H
       have c110b0 : decide (t954 < 0) = false := decide_eq_false c110
       clear c110
       by_cases c111 : t954 = t936
       rotate_left
       ·rw [if_neg c111] at H
        have c111b0 : (t954 == t936) = false := beq_eq_false_iff_ne.mpr c111
        have c111b1 : (t954 != t936) = true := bne_iff_ne.mpr c111
        obtain rfl := Option.some.inj H
        go_wp2_with (first | ((with_reducible refine gate_callee (f := 33) rfl ?_); refine goesL_ (some 119) rfl rfl Try.func33 (by kernel_rfl) rfl #[.slice Ao93 t937.length co93, .int .i64 1] rfl zal3 ?_; (with_reducible refine (laws_heldIntS.calls kj91 _ _ t937 1 t954 _ ?side1 ?side2 A109.out).mono ?_); (case side1 => exact zal14); (case side2 => exact (Kd.R_reads' HO_12.out).2.1); rintro e w' ⟨rfl, ⟨nd, rfl⟩⟩; refine ⟨_, rfl, ?_⟩))
        go_ret
        exact ⟨zal17, zal1⟩
       rw [if_pos c111] at H
       have c111b0 : (t954 == t936) = true := beq_iff_eq.mpr c111
       have c111b1 : (t954 != t936) = false := bne_eq_false_iff_eq.mpr c111
       clear c111
       obtain rfl := Option.some.inj H
       go_wp2_with (first | ((with_reducible refine gate_callee (f := 33) rfl ?_); refine goesL_ (some 119) rfl rfl Try.func33 (by kernel_rfl) rfl #[.slice Ao93 t937.length co93, .int .i64 1] rfl zal3 ?_; (with_reducible refine (laws_heldIntS.calls kj91 _ _ t937 1 t954 _ ?side1 ?side2 A109.out).mono ?_); (case side1 => exact zal14); (case side2 => exact (Kd.R_reads' HO_12.out).2.1); rintro e w' ⟨rfl, ⟨nd, rfl⟩⟩; refine ⟨_, rfl, ?_⟩))
       go_ret
       exact ⟨zal17, zal1⟩

end Go.Proofs.Ythoklbeenjppbaa.Q

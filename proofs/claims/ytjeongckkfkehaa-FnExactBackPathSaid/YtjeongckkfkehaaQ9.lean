/- Written by a program of this session: functions of the translation as plain Lean functions, each with a proof that the call does what the plain function says; the conditions stand in each theorem. -/
import Derived.Test.YtjeongckkfkehaaQ0
import Derived.Test.YtjeongckkfkehaaQ1
import Derived.Test.YtjeongckkfkehaaQ2
import Derived.Test.YtjeongckkfkehaaQ5
import Derived.Test.YtjeongckkfkehaaQ8
import Derived.Test.YtjeongckkfkehaaQ11
namespace Go.Proofs.Ytjeongckkfkehaa.Q
open Go.RowKit Go.Proofs.YtjeongckkfkehaaW.PrintWords Go.Proofs.YtjeongckkfkehaaW.PrintLast Go.Proofs.YtjeongckkfkehaaW.PrintMore
attribute [local go_sem] max2_int min2_int max_two min_two max_three min_three max_four min_four   -- for this text's walks alone
set_option linter.unusedVariables false
set_option linter.unusedSimpArgs false

theorem zj1 {p : Prop} (h : p := by repeat (first | (with_reducible first | exact HB.out | apply below_alloc | apply pw_below_drewN | apply below_drew1 | refine below_set ?_ GE250.out | refine below_set ?_ GE251.out | refine below_set ?_ GE272.out) | exact HB.out)) : p := h
theorem zj2 {p : Prop} (h : p := by first | exact BK250.out | ((with_reducible repeat (first | refine blk_drewN ?_ _ | refine blk_drew ?_ | refine blk_alloc ?_ _)); exact BK250.out)) : p := h
theorem zj3 {p : Prop} (h : p := by (try simp only [List.map_toArray, List.map_cons, List.map_nil]); first | done | rfl | (simp only [List.length_drop, List.length_take]; rfl)) : p := h
theorem zj4 {p : Prop} (h : p := by first | exact BK251.out | ((with_reducible repeat (first | refine blk_drewN ?_ _ | refine blk_drew ?_ | refine blk_alloc ?_ _)); exact BK251.out)) : p := h
theorem zj6 {p : Prop} (h : p := by repeat (first | (with_reducible first | exact HB.out | apply below_alloc | apply pw_below_drewN | apply below_drew1 | refine below_set ?_ GE250.out | refine below_set ?_ GE251.out) | exact HB.out)) : p := h
theorem zj7 {p : Prop} (h : p := by first | exact BK272.out | ((with_reducible repeat (first | refine blk_drewN ?_ _ | refine blk_drew ?_ | refine blk_alloc ?_ _)); exact BK272.out)) : p := h
theorem zj8 {p : Prop} (h : p := by first | exact HO_273002.out | ((with_reducible repeat (first | apply Kd.R_alloc | apply Kd.R_drewN | apply Kd.R_drew)); exact HO_273002.out)) : p := h
theorem zj9 {p : Prop} (h : p := by first | exact HO_12.out | ((with_reducible repeat (first | apply Kd.R_alloc | apply Kd.R_drewN | apply Kd.R_drew)); exact HO_12.out)) : p := h
theorem zj10 {p : Prop} (h : p := by first | exact HO_8.out | ((with_reducible repeat (first | apply Kd.R_alloc | apply Kd.R_drewN | apply Kd.R_drew)); exact HO_8.out)) : p := h
theorem zj11 {p : Prop} (h : p := by repeat (first | (with_reducible first | exact HB.out | apply below_alloc | apply pw_below_drewN | apply below_drew1 | refine below_set ?_ GE250.out) | exact HB.out)) : p := h
theorem zj12 {p : Prop} (h : p := by first | exact HO_11.out | ((with_reducible repeat (first | apply Kd.R_alloc | apply Kd.R_drewN | apply Kd.R_drew)); exact HO_11.out)) : p := h
theorem zj13 {p : Prop} (h : p := by repeat (first | exact (Kd.C_below HR0_2.out HB.out) | (with_reducible refine Kd.C_alloc ?_ _) | (with_reducible refine Kd.C_drewN ?_ _) | (with_reducible refine Kd.C_drew ?_))) : p := h
theorem zj14 {p : Prop} (h : p := by repeat (first | exact (Kd.R_reads' HO_12.out).2.2 | (with_reducible refine Kd.C_alloc ?_ _) | (with_reducible refine Kd.C_drewN ?_ _) | (with_reducible refine Kd.C_drew ?_))) : p := h
theorem zj15 {p : Prop} (h : p := by repeat (first | (with_reducible first | exact HB.out | apply below_alloc | apply pw_below_drewN | apply below_drew1) | exact HB.out)) : p := h
theorem zj16 {p : Prop} (h : p := by first | exact HO257.out | ((with_reducible repeat (first | apply Kd.R_alloc | apply Kd.R_drewN | apply Kd.R_drew)); exact HO257.out)) : p := h
theorem zj17 {p : Prop} (h : p := by first | rfl | (simp [errW_none, errW_some] <;> rfl) | (simp [*, errW_none, errW_some] <;> rfl)) : p := h
theorem zj18 {p : Prop} (h : p := by first | exact HO262.out | ((with_reducible repeat (first | apply Kd.R_alloc | apply Kd.R_drewN | apply Kd.R_drew)); exact HO262.out)) : p := h
theorem zj19 {p : Prop} (h : p := by first | exact HO287.out | ((with_reducible repeat (first | apply Kd.R_alloc | apply Kd.R_drewN | apply Kd.R_drew)); exact HO287.out)) : p := h
theorem zj20 {p : Prop} (h : p := by first | exact HO265.out | ((with_reducible repeat (first | apply Kd.R_alloc | apply Kd.R_drewN | apply Kd.R_drew)); exact HO265.out)) : p := h
theorem zj21 {p : Prop} (h : p := by repeat (first | exact (Kd.C_below HR2.out HB.out) | (with_reducible refine Kd.C_alloc ?_ _) | (with_reducible refine Kd.C_drewN ?_ _) | (with_reducible refine Kd.C_drew ?_))) : p := h
theorem zj22 {p : Prop} (h : p := by repeat (first | exact (Kd.R_reads' HO_8.out).2.2 | (with_reducible refine Kd.C_alloc ?_ _) | (with_reducible refine Kd.C_drewN ?_ _) | (with_reducible refine Kd.C_drew ?_))) : p := h
theorem zj23 {p : Prop} (h : p := by (try simp only [List.map_toArray, List.map_cons, List.map_nil]); first | done | (rw [show t299.length = t278.length from (Kd.R_reads' HO_12.out).1.symm] <;> rfl) | rfl | (simp only [List.length_drop, List.length_take]; rfl)) : p := h
theorem zj24 {p : Prop} (h : p := by (with_reducible repeat (first | apply Kd.R_alloc | apply Kd.R_drewN | apply Kd.R_drew)); exact (Kd.R_mono (Kd.R_far (p := ⟨gb272, 2, none⟩) (Kd.R_far (p := ⟨gb272, 1, none⟩) (Kd.R_far (p := ⟨gb272, 0, none⟩) (Kd.R_types HO271.out BK272.out (by decide)) (fun _ hk => hk.2) (.int .i64 t267)) (fun _ hk => hk.2) (.int .i64 t268)) (fun _ hk => hk.2) (.slice Ao41 t269.length co41)) (fun _ h_ => h_.1))) : p := h
theorem zj25 {p : Prop} (h : p := by (with_reducible repeat (first | apply Kd.R_alloc | apply Kd.R_drewN | apply Kd.R_drew)); exact (Kd.R_mono (Kd.R_far (p := ⟨gb272, 2, none⟩) (Kd.R_far (p := ⟨gb272, 1, none⟩) (Kd.R_far (p := ⟨gb272, 0, none⟩) (Kd.R_types HO265.out BK272.out (by decide)) (fun _ hk => hk.2) (.int .i64 t267)) (fun _ hk => hk.2) (.int .i64 t268)) (fun _ hk => hk.2) (.slice Ao41 t269.length co41)) (fun _ h_ => h_.1))) : p := h
theorem zj26 {p : Prop} (h : p := by (with_reducible repeat (first | apply Kd.R_alloc | apply Kd.R_drewN | apply Kd.R_drew)); exact (Kd.R_mono (Kd.R_far (p := ⟨gb272, 2, none⟩) (Kd.R_far (p := ⟨gb272, 1, none⟩) (Kd.R_far (p := ⟨gb272, 0, none⟩) (Kd.R_types HO262.out BK272.out (by decide)) (fun _ hk => hk.2) (.int .i64 t267)) (fun _ hk => hk.2) (.int .i64 t268)) (fun _ hk => hk.2) (.slice Ao41 t269.length co41)) (fun _ h_ => h_.1))) : p := h
theorem zj27 {p : Prop} (h : p := by (with_reducible repeat (first | apply Kd.R_alloc | apply Kd.R_drewN | apply Kd.R_drew)); exact (Kd.R_mono (Kd.R_far (p := ⟨gb272, 2, none⟩) (Kd.R_far (p := ⟨gb272, 1, none⟩) (Kd.R_far (p := ⟨gb272, 0, none⟩) (Kd.R_types HO257.out BK272.out (by decide)) (fun _ hk => hk.2) (.int .i64 t267)) (fun _ hk => hk.2) (.int .i64 t268)) (fun _ hk => hk.2) (.slice Ao41 t269.length co41)) (fun _ h_ => h_.1))) : p := h
theorem zj28 {p : Prop} (h : p := by first | exact HO305.out | ((with_reducible repeat (first | apply Kd.R_alloc | apply Kd.R_drewN | apply Kd.R_drew)); exact HO305.out)) : p := h
theorem zj29 {p : Prop} (h : p := by repeat (first | exact (Kd.R_reads' HO_273002.out).2.2 | (with_reducible refine Kd.C_alloc ?_ _) | (with_reducible refine Kd.C_drewN ?_ _) | (with_reducible refine Kd.C_drew ?_))) : p := h
theorem zj30 {p : Prop} (h : p := by repeat (first | exact (Kd.R_reads' HO287.out).2.2 | (with_reducible refine Kd.C_alloc ?_ _) | (with_reducible refine Kd.C_drewN ?_ _) | (with_reducible refine Kd.C_drew ?_))) : p := h
theorem zj31 {p : Prop} (h : p := by first | exact HO271.out | ((with_reducible repeat (first | apply Kd.R_alloc | apply Kd.R_drewN | apply Kd.R_drew)); exact HO271.out)) : p := h
theorem zj32 {p : Prop} (h : p := by (with_reducible repeat (first | apply Kd.R_alloc | apply Kd.R_drewN | apply Kd.R_drew)); exact Kd.R_mono HO_273002.out (fun _ hk => ⟨hk.1, hk.2.2.1⟩)) : p := h
theorem zj33 {p : Prop} (h : p := by (with_reducible repeat (first | apply Kd.R_alloc | apply Kd.R_drewN | apply Kd.R_drew)); exact Kd.R_mono HO_8.out (fun _ hk => ⟨hk.2.1, hk.2.2.1⟩)) : p := h
theorem zj34 {p : Prop} (h : p := by (with_reducible repeat (first | apply Kd.R_alloc | apply Kd.R_drewN | apply Kd.R_drew)); exact Kd.R_mono HO_12.out (fun _ hk => ⟨hk.1, hk.2.2.1⟩)) : p := h
theorem zj35 {p : Prop} (h : p := by first | rfl | (simp; done) | (simp [*]; done)) : p := h
theorem zj36 {p : Prop} (h : p := by first | exact HO275.out | ((with_reducible repeat (first | apply Kd.R_alloc | apply Kd.R_drewN | apply Kd.R_drew)); exact HO275.out)) : p := h
theorem zj37 {p : Prop} (h : p := by rw [show t299.length = t278.length from (Kd.R_reads' HO_12.out).1.symm]; exact (Kd.R_reads' HO_12.out).2.1) : p := h
theorem zj38 {p : Prop} (h : p := by (try simp only [hl273002_61]); (with_reducible repeat (first | apply Kd.R_alloc | apply Kd.R_drewN | apply Kd.R_drew)); exact Kd.R_mono HO_273002.out (fun _ hk => hk.1.1.1.2)) : p := h
theorem zj39 {p : Prop} (h : p := by (try simp only [hl273002_61]); (with_reducible repeat (first | apply Kd.R_alloc | apply Kd.R_drewN | apply Kd.R_drew)); exact Kd.R_mono HO_12.out (fun _ hk => hk.1.1.1.2)) : p := h
theorem zj40 {p : Prop} (h : p := by (with_reducible repeat (first | apply Kd.R_alloc | apply Kd.R_drewN | apply Kd.R_drew)); exact Kd.R_mono HO280.out (fun _ hk => ⟨hk.1.1.2, ⟨hk.2, hk.1.2⟩⟩)) : p := h
theorem zj41 {p : Prop} (h : p := by (with_reducible repeat (first | apply Kd.R_alloc | apply Kd.R_drewN | apply Kd.R_drew)); exact Kd.R_mono HO275.out (fun _ hk => ⟨hk.1.1.2, ⟨hk.2, hk.1.2⟩⟩)) : p := h
theorem zj42 {p : Prop} (h : p := by (with_reducible repeat (first | apply Kd.R_alloc | apply Kd.R_drewN | apply Kd.R_drew)); exact Kd.R_mono HO271.out (fun _ hk => ⟨hk.1.1.2, ⟨hk.1.2, hk.2⟩⟩)) : p := h
theorem zj43 {p : Prop} (h : p := by (with_reducible repeat (first | apply Kd.R_alloc | apply Kd.R_drewN | apply Kd.R_drew)); exact Kd.R_mono HO265.out (fun _ hk => ⟨hk.1.2, ⟨hk.2, hk.1.1.2⟩⟩)) : p := h
theorem zj44 {p : Prop} (h : p := by repeat (first | exact (Kd.R_reads' HO_11.out).2.2 | (with_reducible refine Kd.C_alloc ?_ _) | (with_reducible refine Kd.C_drewN ?_ _) | (with_reducible refine Kd.C_drew ?_))) : p := h
theorem zj45 {p : Prop} (h : p := by repeat (first | exact (Kd.R_reads' HO313.out).2.2 | (with_reducible refine Kd.C_alloc ?_ _) | (with_reducible refine Kd.C_drewN ?_ _) | (with_reducible refine Kd.C_drew ?_))) : p := h
theorem zj46 {p : Prop} (h : p := by repeat (first | exact (Kd.R_reads' HO291.out).2.2 | (with_reducible refine Kd.C_alloc ?_ _) | (with_reducible refine Kd.C_drewN ?_ _) | (with_reducible refine Kd.C_drew ?_))) : p := h
theorem zj47 {p : Prop} (h : p := by repeat (first | exact (Kd.R_reads' HO280.out).2.2 | (with_reducible refine Kd.C_alloc ?_ _) | (with_reducible refine Kd.C_drewN ?_ _) | (with_reducible refine Kd.C_drew ?_))) : p := h
theorem zj48 {p : Prop} (h : p := by repeat (first | exact (Kd.R_reads' HO265.out).2.2 | (with_reducible refine Kd.C_alloc ?_ _) | (with_reducible refine Kd.C_drewN ?_ _) | (with_reducible refine Kd.C_drew ?_))) : p := h
theorem zj49 {p : Prop} (h : p := by (try simp only [hl273002_61]); first | exact BK272.out | ((with_reducible repeat (first | refine blk_drewN ?_ _ | refine blk_drew ?_ | refine blk_alloc ?_ _)); exact BK272.out)) : p := h
theorem zj50 {p : Prop} (h : p := by (try simp only [hl273002_61]); first | exact BK251.out | ((with_reducible repeat (first | refine blk_drewN ?_ _ | refine blk_drew ?_ | refine blk_alloc ?_ _)); exact BK251.out)) : p := h
theorem zj51 {p : Prop} (h : p := by (try simp only [hl273002_61]); first | exact BK250.out | ((with_reducible repeat (first | refine blk_drewN ?_ _ | refine blk_drew ?_ | refine blk_alloc ?_ _)); exact BK250.out)) : p := h
theorem zj52 {p : Prop} (h : p := by rw [hg]; exact Nat.ne_of_lt (blk_lt (g := gb250) (o := .cells #[.int .i64 a0_0, .int .i64 a0_1, .slice A0_2 l0_2.length c0_2] 24 (0, 0)) zj2)) : p := h
theorem zj53 {p : Prop} (h : p := by rw [hg]; exact Nat.ne_of_gt (blk_lt (g := gb250) (o := .cells #[.int .i64 a0_0, .int .i64 a0_1, .slice A0_2 l0_2.length c0_2] 24 (0, 0)) zj2)) : p := h
theorem zj54 {p : Prop} (h : p := by rw [hg]; exact (below_size zj15)) : p := h
theorem zj55 {p : Prop} (h : p := by rw [hg]; exact (below_size zj11)) : p := h
/-! ### laws_FnExactBackPath: function 3 -/
mutual
def laws_FnExactBackPath.j0 : Nat → List Int → List Int → Bool → List Int → List Int → Bool → Bool → Int → Int → List Int → Int → Int → Int → Int → List Int → Option (Bool)
 | 0, _, _, _, _, _, _, _, _, _, _, _, _, _, _, _ => none
 | k + 1, x2, x8, x9, x11, x12, x13, x57, x251000, x251001, x251002, x252000, x252001, x273000, x273001, x273002 => if x57 = true then (some false) else ((laws_toBoard.f k x251000 x251001 x251002).bind fun bt283 => ((laws_eqBoard.f k x273000 x273001 x273002 bt283.1 bt283.2.1 bt283.2.2).bind fun t288 => (if t288 = true then ((laws_toIntS.f k x2).bind fun t289 => ((laws_eqIntS.f k x11 t289).bind fun t292 => (if t292 = true then ((laws_markBoard.f k x273000 x273001 x273002 1).bind fun bt293 => ((laws_markIntS.f k x11 bt293.1).bind fun bt295 => (if bt295.1 < 0 then (laws_FnExactBackPath.j1 k x2 x8 x9 x12 true x251000 x251001 x251002 x252000 x252001) else ((laws_eqIntS.f k x12 x8).bind fun t297 => (if t297 = true then (laws_FnExactBackPath.j1 k x2 x8 x9 x12 (x13 != x9) x251000 x251001 x251002 x252000 x252001) else (laws_FnExactBackPath.j1 k x2 x8 x9 x12 true x251000 x251001 x251002 x252000 x252001)))))) else (some false)))) else (some false))))
def laws_FnExactBackPath.j1 : Nat → List Int → List Int → Bool → List Int → Bool → Int → Int → List Int → Int → Int → Option (Bool)
 | 0, _, _, _, _, _, _, _, _, _, _ => none
 | k + 1, x2, x8, x9, x12, x86, x251000, x251001, x251002, x252000, x252001 => if x86 = true then (some false) else ((laws_markIntS.f k x12 1).bind fun bt298 => ((laws_heldIntS.f k bt298.2 1).bind fun t300 => (if t300 < 0 then (some false) else (if t300 = bt298.1 then ((laws_toBoard.f k x251000 x251001 x251002).bind fun bt301 => ((laws_toLeaper.f x252000 x252001).bind fun bt306 => ((laws_toIntS.f k x2).bind fun t308 => ((impl_BackPath.f k bt301.1 bt301.2.1 bt301.2.2 bt306.1 bt306.2 t308).bind fun bt311 => ((laws_eqIntS.f k bt311.1 x8).bind fun t315 => (if t315 = true then (laws_FnExactBackPath.j2 k bt298.2 bt298.1 (bt311.2 != x9)) else (laws_FnExactBackPath.j2 k bt298.2 bt298.1 true))))))) else (some false)))))
def laws_FnExactBackPath.j2 : Nat → List Int → Int → Bool → Option (Bool)
 | 0, _, _, _ => none
 | k + 1, x12, x15, x116 => if x116 = true then (some false) else ((laws_heldIntS.f k x12 1).bind fun t316 => (if t316 < 0 then (some false) else (if t316 = x15 then (some true) else (some false))))
end
def laws_FnExactBackPath.f (k : Nat) (a0_0 : Int) (a0_1 : Int) (l0_2 : List Int) (a1_0 : Int) (a1_1 : Int) (l2 : List Int) : Option (Bool) := if (l2.length : Int) > 1048576 then (some true) else ((laws_szBoard.f a0_0 a0_1 l0_2 1048576).bind fun t252 => (if t252 < 0 then (some true) else ((laws_toBoard.f k a0_0 a0_1 l0_2).bind fun bt253 => ((laws_toLeaper.f a1_0 a1_1).bind fun bt258 => ((laws_toIntS.f k l2).bind fun t260 => ((spec_BackPath.f k bt253.1 bt253.2.1 bt253.2.2 bt258.1 bt258.2 t260).bind fun bt263 => ((laws_toBoard.f k a0_0 a0_1 l0_2).bind fun bt267 => ((laws_toIntS.f k l2).bind fun t273 => ((laws_toLeaper.f a1_0 a1_1).bind fun bt276 => ((impl_BackPath.f k bt267.1 bt267.2.1 bt267.2.2 bt276.1 bt276.2 t273).bind fun bt278 => ((laws_eqIntS.f k bt278.1 bt263.1).bind fun t282 => (if t282 = true then (laws_FnExactBackPath.j0 k l2 bt263.1 bt263.2 t273 bt278.1 bt278.2 (bt278.2 != bt263.2) a0_0 a0_1 l0_2 a1_0 a1_1 bt267.1 bt267.2.1 bt267.2.2) else (laws_FnExactBackPath.j0 k l2 bt263.1 bt263.2 t273 bt278.1 bt278.2 true a0_0 a0_1 l0_2 a1_0 a1_1 bt267.1 bt267.2.1 bt267.2.2)))))))))))))
def laws_FnExactBackPath.T7 : Bool × List (List Nat × List Nat) := (true, [([], []), ([0], [0]), ([], []), ([2, 1], [2]), ([], []), ([4, 3], [4]), ([1, 3, 5, 5], [1, 3, 5]), ([6], [6]), ([7], [7]), ([7], [7]), ([8, 6, 0, 1, 2, 3, 4, 5, 6, 7, 8], [8]), ([9, 10, 0, 1, 2, 3, 4, 5, 6, 7, 8, 9, 10], [9])])
def laws_FnExactBackPath.B7 : List Nat := [0, 1, 0, 7, 0, 31, 63, 127, 255, 255, 511, 2047]
theorem laws_FnExactBackPath.tab7 : rtab .any (opsOf Try.f3 7) = laws_FnExactBackPath.T7 := by kernel_rfl
theorem laws_FnExactBackPath.bits7 : waitsOk laws_FnExactBackPath.T7.2 laws_FnExactBackPath.B7 = true := by kernel_rfl
def laws_FnExactBackPath.T10 : Bool × List (List Nat × List Nat) := (true, [([], []), ([], []), ([1], [1]), ([], []), ([0, 2, 3, 2], [0, 2, 3]), ([4], [4]), ([5], [5]), ([5], [5]), ([6, 4, 0, 1, 2, 3, 4, 5, 6], [6]), ([7, 8, 0, 1, 2, 3, 4, 5, 6, 7, 8], [7])])
def laws_FnExactBackPath.B10 : List Nat := [0, 0, 2, 0, 15, 31, 63, 63, 127, 511]
theorem laws_FnExactBackPath.tab10 : rtab .any (opsOf Try.f3 10) = laws_FnExactBackPath.T10 := by kernel_rfl
theorem laws_FnExactBackPath.bits10 : waitsOk laws_FnExactBackPath.T10.2 laws_FnExactBackPath.B10 = true := by kernel_rfl
def laws_FnExactBackPath.T30 : Bool × List (List Nat × List Nat) := (true, [([], []), ([0], [0]), ([], []), ([2, 1], [2]), ([], []), ([4, 3], [4]), ([1, 3, 5, 5], [1, 3, 5]), ([6], [6]), ([7], [7]), ([7], [7]), ([8, 6, 0, 1, 2, 3, 4, 5, 6, 7, 8], [8]), ([9, 10, 0, 1, 2, 3, 4, 5, 6, 7, 8, 9, 10], [9])])
def laws_FnExactBackPath.B30 : List Nat := [0, 1, 0, 7, 0, 31, 63, 127, 255, 255, 511, 2047]
theorem laws_FnExactBackPath.tab30 : rtab .any (opsOf Try.f3 30) = laws_FnExactBackPath.T30 := by kernel_rfl
theorem laws_FnExactBackPath.bits30 : waitsOk laws_FnExactBackPath.T30.2 laws_FnExactBackPath.B30 = true := by kernel_rfl
set_option maxHeartbeats 8000000 in
set_option maxRecDepth 100000 in
theorem laws_FnExactBackPath.calls (k : Nat) (a0_0 : Int) (a0_1 : Int) (A0_2 : Option Addr) (c0_2 : Nat) (l0_2 : List Int) (a1_0 : Int) (a1_1 : Int) (A2 : Option Addr) (c2 : Nat) (l2 : List Int) (r : Bool) (w : World) (hr0_2 : Kd.C (Kd.int .i64) w A0_2 l0_2.length l0_2) (hc0_2 : l0_2.length ≤ c0_2) (hr2 : Kd.C (Kd.int .i64) w A2 l2.length l2) (hc2 : l2.length ≤ c2) (h : laws_FnExactBackPath.f k a0_0 a0_1 l0_2 a1_0 a1_1 l2 = some r) :
  Calls Try.prog 3 #[.agg #[.int .i64 a0_0, .int .i64 a0_1, .slice A0_2 l0_2.length c0_2], .agg #[.int .i64 a1_0, .int .i64 a1_1], .slice A2 l2.length c2] w fun e w' => e = .returned (.bool r) ∧ Below w.heap.size w w' := by
 have hu24 := Try.underlying24
 have hu26 := Try.underlying26
 have hu30 := Try.underlying30
 have HR0_2 := Aside0.mk hr0_2
 have HC0_2 := Aside0.mk hc0_2
 clear hr0_2 hc0_2
 have HR2 := Aside0.mk hr2
 have HC2 := Aside0.mk hc2
 clear hr2 hc2
 have HB := Aside0.mk (Below.refl w.heap.size w)
 have H : (if (l2.length : Int) > 1048576 then (some true) else ((laws_szBoard.f a0_0 a0_1 l0_2 1048576).bind fun t252 => (if t252 < 0 then (some true) else ((laws_toBoard.f k a0_0 a0_1 l0_2).bind fun bt253 => ((laws_toLeaper.f a1_0 a1_1).bind fun bt258 => ((laws_toIntS.f k l2).bind fun t260 => ((spec_BackPath.f k bt253.1 bt253.2.1 bt253.2.2 bt258.1 bt258.2 t260).bind fun bt263 => ((laws_toBoard.f k a0_0 a0_1 l0_2).bind fun bt267 => ((laws_toIntS.f k l2).bind fun t273 => ((laws_toLeaper.f a1_0 a1_1).bind fun bt276 => ((impl_BackPath.f k bt267.1 bt267.2.1 bt267.2.2 bt276.1 bt276.2 t273).bind fun bt278 => ((laws_eqIntS.f k bt278.1 bt263.1).bind fun t282 => (if t282 = true then (laws_FnExactBackPath.j0 k l2 bt263.1 bt263.2 t273 bt278.1 bt278.2 (bt278.2 != bt263.2) a0_0 a0_1 l0_2 a1_0 a1_1 bt267.1 bt267.2.1 bt267.2.2) else (laws_FnExactBackPath.j0 k l2 bt263.1 bt263.2 t273 bt278.1 bt278.2 true a0_0 a0_1 l0_2 a1_0 a1_1 bt267.1 bt267.2.1 bt267.2.2)))))))))))))) = some r := h
 clear h
 by_cases c4 : (l2.length : Int) > 1048576
 ·rw [if_pos c4] at H
  have c4b0 : decide (1048576 < (l2.length : Int)) = true := decide_eq_true c4
  have c4b1 : decide (1048576 < l2.length) = true := decide_eq_true (by omega)
  clear c4
  obtain rfl := Option.some.inj H
  go_enter Try.func3, Try.ntmps3
  go_wp2_with (first | ((with_reducible refine gate_dst (N := 3) rfl ?_); refine box_event ?hg (N := 3) ?hd (cs := #[.int .i64 a0_0, .int .i64 a0_1, .slice A0_2 l0_2.length c0_2]) (t := 24) ?hr ?_; (case hd => rfl); (case hg => rfl); (case hr => first | (go_simp; done) | (go_simp; rfl)); intro gb250 hg w5 hbox hb; have n0_ := Aside0.mk (below_step zj15 hb); have n1_ := Aside0.mk (hbox); have n2_ := Aside0.mk ((zj54 : w.heap.size ≤ gb250)); have n3_ := Aside0.mk ((zj54 : w.heap.size ≤ gb250)); clear HB; have HB := n0_; have BK250 := n1_; have GW250 := n2_; have GE250 := n3_; clear n0_ n1_ n2_ n3_; clear hb hbox hg) | ((with_reducible refine gate_dst (N := 4) rfl ?_); refine box_event ?hg (N := 4) ?hd (cs := #[.int .i64 a1_0, .int .i64 a1_1]) (t := 26) ?hr ?_; (case hd => rfl); (case hg => rfl); (case hr => first | (go_simp; done) | (go_simp; rfl)); intro gb251 hg w6 hbox hb; have n0_ := Aside0.mk (blk_below (g := gb250) (o := .cells #[.int .i64 a0_0, .int .i64 a0_1, .slice A0_2 l0_2.length c0_2] 24 (0, 0)) zj2 hb); have n1_ := Aside0.mk (below_step zj11 hb); have n2_ := Aside0.mk (hbox); have n3_ := Aside0.mk ((zj55 : w.heap.size ≤ gb251)); have n4_ := Aside0.mk ((zj55 : w.heap.size ≤ gb251)); have n5_ := Aside0.mk ((zj52 : gb250 ≠ gb251)); have n6_ := Aside0.mk ((zj53 : gb251 ≠ gb250)); clear BK250; clear HB; have BK250 := n0_; have HB := n1_; have BK251 := n2_; have GW251 := n3_; have GE251 := n4_; have NB250_251 := n5_; have NB251_250 := n6_; clear n0_ n1_ n2_ n3_ n4_ n5_ n6_; clear hb hbox hg))
  go_ret
  exact ⟨zj17, zj6⟩
 rw [if_neg c4] at H
 have c4b0 : decide (1048576 < (l2.length : Int)) = false := decide_eq_false c4
 have c4b1 : decide (1048576 < l2.length) = false := decide_eq_false (by omega)
 clear c4
 replace H := Option.bind_eq_some_iff.mp H
 obtain ⟨t252, A70, H⟩ := H
 replace H : (if t252 < 0 then (some true) else ((laws_toBoard.f k a0_0 a0_1 l0_2).bind fun bt253 => ((laws_toLeaper.f a1_0 a1_1).bind fun bt258 => ((laws_toIntS.f k l2).bind fun t260 => ((spec_BackPath.f k bt253.1 bt253.2.1 bt253.2.2 bt258.1 bt258.2 t260).bind fun bt263 => ((laws_toBoard.f k a0_0 a0_1 l0_2).bind fun bt267 => ((laws_toIntS.f k l2).bind fun t273 => ((laws_toLeaper.f a1_0 a1_1).bind fun bt276 => ((impl_BackPath.f k bt267.1 bt267.2.1 bt267.2.2 bt276.1 bt276.2 t273).bind fun bt278 => ((laws_eqIntS.f k bt278.1 bt263.1).bind fun t282 => (if t282 = true then (laws_FnExactBackPath.j0 k l2 bt263.1 bt263.2 t273 bt278.1 bt278.2 (bt278.2 != bt263.2) a0_0 a0_1 l0_2 a1_0 a1_1 bt267.1 bt267.2.1 bt267.2.2) else (laws_FnExactBackPath.j0 k l2 bt263.1 bt263.2 t273 bt278.1 bt278.2 true a0_0 a0_1 l0_2 a1_0 a1_1 bt267.1 bt267.2.1 bt267.2.2)))))))))))) = some r := H
 have A7 := Aside0.mk A70
 clear A70
 by_cases c8 : t252 < 0
 ·rw [if_pos c8] at H
  have c8b0 : decide (t252 < 0) = true := decide_eq_true c8
  clear c8
  obtain rfl := Option.some.inj H
  go_enter Try.func3, Try.ntmps3
  go_wp2_with (first | ((with_reducible refine gate_dst (N := 3) rfl ?_); refine box_event ?hg (N := 3) ?hd (cs := #[.int .i64 a0_0, .int .i64 a0_1, .slice A0_2 l0_2.length c0_2]) (t := 24) ?hr ?_; (case hd => rfl); (case hg => rfl); (case hr => first | (go_simp; done) | (go_simp; rfl)); intro gb250 hg w9 hbox hb; have n0_ := Aside0.mk (below_step zj15 hb); have n1_ := Aside0.mk (hbox); have n2_ := Aside0.mk ((zj54 : w.heap.size ≤ gb250)); have n3_ := Aside0.mk ((zj54 : w.heap.size ≤ gb250)); clear HB; have HB := n0_; have BK250 := n1_; have GW250 := n2_; have GE250 := n3_; clear n0_ n1_ n2_ n3_; clear hb hbox hg) | ((with_reducible refine gate_dst (N := 4) rfl ?_); refine box_event ?hg (N := 4) ?hd (cs := #[.int .i64 a1_0, .int .i64 a1_1]) (t := 26) ?hr ?_; (case hd => rfl); (case hg => rfl); (case hr => first | (go_simp; done) | (go_simp; rfl)); intro gb251 hg w10 hbox hb; have n0_ := Aside0.mk (blk_below (g := gb250) (o := .cells #[.int .i64 a0_0, .int .i64 a0_1, .slice A0_2 l0_2.length c0_2] 24 (0, 0)) zj2 hb); have n1_ := Aside0.mk (below_step zj11 hb); have n2_ := Aside0.mk (hbox); have n3_ := Aside0.mk ((zj55 : w.heap.size ≤ gb251)); have n4_ := Aside0.mk ((zj55 : w.heap.size ≤ gb251)); have n5_ := Aside0.mk ((zj52 : gb250 ≠ gb251)); have n6_ := Aside0.mk ((zj53 : gb251 ≠ gb250)); clear BK250; clear HB; have BK250 := n0_; have HB := n1_; have BK251 := n2_; have GW251 := n3_; have GE251 := n4_; have NB250_251 := n5_; have NB251_250 := n6_; clear n0_ n1_ n2_ n3_ n4_ n5_ n6_; clear hb hbox hg; have hnb11 := NB250_251.out; have hnc11 := NB251_250.out; have hcz12_0 : w10.cell? ⟨gb250, 0, none⟩ = some (.int .i64 a0_0) := (blk_cell BK250.out 0).trans rfl; have hcz12_1 : w10.cell? ⟨gb250, 1, none⟩ = some (.int .i64 a0_1) := (blk_cell BK250.out 1).trans rfl; have hcz12_2 : w10.cell? ⟨gb250, 2, none⟩ = some (.slice A0_2 l0_2.length c0_2) := (blk_cell BK250.out 2).trans rfl; have hfz12_0 := blk_frozen BK250.out 0; have hfz12_1 := blk_frozen BK250.out 1; have hfz12_2 := blk_frozen BK250.out 2) | ((with_reducible refine gate_callee (f := 15) rfl ?_); refine goesL_ (some 24) rfl rfl Try.func15 (by kernel_rfl) rfl #[.agg #[.int .i64 a0_0, .int .i64 a0_1, .slice A0_2 l0_2.length c0_2], .int .i64 1048576] rfl zj3 ?_; (with_reducible refine (laws_szBoard.calls a0_0 a0_1 _ _ l0_2 1048576 t252 _ ?side1 ?side2 A7.out).mono ?_); (case side1 => exact zj13); (case side2 => exact HC0_2.out); rintro e w13 ⟨rfl, hb⟩; refine ⟨_, rfl, ?_⟩; have n0_ := Aside0.mk (blk_below (g := gb250) (o := .cells #[.int .i64 a0_0, .int .i64 a0_1, .slice A0_2 l0_2.length c0_2] 24 (0, 0)) zj2 hb); have n1_ := Aside0.mk (blk_below (g := gb251) (o := .cells #[.int .i64 a1_0, .int .i64 a1_1] 26 (0, 0)) zj4 hb); have n2_ := Aside0.mk (below_step zj6 hb); clear BK250; clear BK251; clear HB; have BK250 := n0_; have BK251 := n1_; have HB := n2_; clear n0_ n1_ n2_; (try clear hb); (try clear hb2); (try clear hk); (try clear hi); (try clear hna_); (try clear hnb_)))
  go_ret
  exact ⟨zj17, zj6⟩
 rw [if_neg c8] at H
 have c8b0 : decide (t252 < 0) = false := decide_eq_false c8
 clear c8
 replace H := Option.bind_eq_some_iff.mp H
 obtain ⟨⟨t253, t254, t255⟩, A140, H⟩ := H
 replace H : ((laws_toLeaper.f a1_0 a1_1).bind fun bt258 => ((laws_toIntS.f k l2).bind fun t260 => ((spec_BackPath.f k t253 t254 t255 bt258.1 bt258.2 t260).bind fun bt263 => ((laws_toBoard.f k a0_0 a0_1 l0_2).bind fun bt267 => ((laws_toIntS.f k l2).bind fun t273 => ((laws_toLeaper.f a1_0 a1_1).bind fun bt276 => ((impl_BackPath.f k bt267.1 bt267.2.1 bt267.2.2 bt276.1 bt276.2 t273).bind fun bt278 => ((laws_eqIntS.f k bt278.1 bt263.1).bind fun t282 => (if t282 = true then (laws_FnExactBackPath.j0 k l2 bt263.1 bt263.2 t273 bt278.1 bt278.2 (bt278.2 != bt263.2) a0_0 a0_1 l0_2 a1_0 a1_1 bt267.1 bt267.2.1 bt267.2.2) else (laws_FnExactBackPath.j0 k l2 bt263.1 bt263.2 t273 bt278.1 bt278.2 true a0_0 a0_1 l0_2 a1_0 a1_1 bt267.1 bt267.2.1 bt267.2.2)))))))))) = some r := H
 have A14 := Aside0.mk A140
 clear A140
 replace H := Option.bind_eq_some_iff.mp H
 obtain ⟨⟨t258, t259⟩, A150, H⟩ := H
 replace H : ((laws_toIntS.f k l2).bind fun t260 => ((spec_BackPath.f k t253 t254 t255 t258 t259 t260).bind fun bt263 => ((laws_toBoard.f k a0_0 a0_1 l0_2).bind fun bt267 => ((laws_toIntS.f k l2).bind fun t273 => ((laws_toLeaper.f a1_0 a1_1).bind fun bt276 => ((impl_BackPath.f k bt267.1 bt267.2.1 bt267.2.2 bt276.1 bt276.2 t273).bind fun bt278 => ((laws_eqIntS.f k bt278.1 bt263.1).bind fun t282 => (if t282 = true then (laws_FnExactBackPath.j0 k l2 bt263.1 bt263.2 t273 bt278.1 bt278.2 (bt278.2 != bt263.2) a0_0 a0_1 l0_2 a1_0 a1_1 bt267.1 bt267.2.1 bt267.2.2) else (laws_FnExactBackPath.j0 k l2 bt263.1 bt263.2 t273 bt278.1 bt278.2 true a0_0 a0_1 l0_2 a1_0 a1_1 bt267.1 bt267.2.1 bt267.2.2))))))))) = some r := H
 have A15 := Aside0.mk A150
 clear A150
 replace H := Option.bind_eq_some_iff.mp H
 obtain ⟨t260, A160, H⟩ := H
 replace H : ((spec_BackPath.f k t253 t254 t255 t258 t259 t260).bind fun bt263 => ((laws_toBoard.f k a0_0 a0_1 l0_2).bind fun bt267 => ((laws_toIntS.f k l2).bind fun t273 => ((laws_toLeaper.f a1_0 a1_1).bind fun bt276 => ((impl_BackPath.f k bt267.1 bt267.2.1 bt267.2.2 bt276.1 bt276.2 t273).bind fun bt278 => ((laws_eqIntS.f k bt278.1 bt263.1).bind fun t282 => (if t282 = true then (laws_FnExactBackPath.j0 k l2 bt263.1 bt263.2 t273 bt278.1 bt278.2 (bt278.2 != bt263.2) a0_0 a0_1 l0_2 a1_0 a1_1 bt267.1 bt267.2.1 bt267.2.2) else (laws_FnExactBackPath.j0 k l2 bt263.1 bt263.2 t273 bt278.1 bt278.2 true a0_0 a0_1 l0_2 a1_0 a1_1 bt267.1 bt267.2.1 bt267.2.2)))))))) = some r := H
 have A16 := Aside0.mk A160
 clear A160
 replace H := Option.bind_eq_some_iff.mp H
 obtain ⟨⟨t263, t266⟩, A170, H⟩ := H
 replace H : ((laws_toBoard.f k a0_0 a0_1 l0_2).bind fun bt267 => ((laws_toIntS.f k l2).bind fun t273 => ((laws_toLeaper.f a1_0 a1_1).bind fun bt276 => ((impl_BackPath.f k bt267.1 bt267.2.1 bt267.2.2 bt276.1 bt276.2 t273).bind fun bt278 => ((laws_eqIntS.f k bt278.1 t263).bind fun t282 => (if t282 = true then (laws_FnExactBackPath.j0 k l2 t263 t266 t273 bt278.1 bt278.2 (bt278.2 != t266) a0_0 a0_1 l0_2 a1_0 a1_1 bt267.1 bt267.2.1 bt267.2.2) else (laws_FnExactBackPath.j0 k l2 t263 t266 t273 bt278.1 bt278.2 true a0_0 a0_1 l0_2 a1_0 a1_1 bt267.1 bt267.2.1 bt267.2.2))))))) = some r := H
 have A17 := Aside0.mk A170
 clear A170
 replace H := Option.bind_eq_some_iff.mp H
 obtain ⟨⟨t267, t268, t269⟩, A180, H⟩ := H
 replace H : ((laws_toIntS.f k l2).bind fun t273 => ((laws_toLeaper.f a1_0 a1_1).bind fun bt276 => ((impl_BackPath.f k t267 t268 t269 bt276.1 bt276.2 t273).bind fun bt278 => ((laws_eqIntS.f k bt278.1 t263).bind fun t282 => (if t282 = true then (laws_FnExactBackPath.j0 k l2 t263 t266 t273 bt278.1 bt278.2 (bt278.2 != t266) a0_0 a0_1 l0_2 a1_0 a1_1 t267 t268 t269) else (laws_FnExactBackPath.j0 k l2 t263 t266 t273 bt278.1 bt278.2 true a0_0 a0_1 l0_2 a1_0 a1_1 t267 t268 t269)))))) = some r := H
 have A18 := Aside0.mk A180
 clear A180
 replace H := Option.bind_eq_some_iff.mp H
 obtain ⟨t273, A190, H⟩ := H
 replace H : ((laws_toLeaper.f a1_0 a1_1).bind fun bt276 => ((impl_BackPath.f k t267 t268 t269 bt276.1 bt276.2 t273).bind fun bt278 => ((laws_eqIntS.f k bt278.1 t263).bind fun t282 => (if t282 = true then (laws_FnExactBackPath.j0 k l2 t263 t266 t273 bt278.1 bt278.2 (bt278.2 != t266) a0_0 a0_1 l0_2 a1_0 a1_1 t267 t268 t269) else (laws_FnExactBackPath.j0 k l2 t263 t266 t273 bt278.1 bt278.2 true a0_0 a0_1 l0_2 a1_0 a1_1 t267 t268 t269))))) = some r := H
 have A19 := Aside0.mk A190
 clear A190
 replace H := Option.bind_eq_some_iff.mp H
 obtain ⟨⟨t276, t277⟩, A200, H⟩ := H
 replace H : ((impl_BackPath.f k t267 t268 t269 t276 t277 t273).bind fun bt278 => ((laws_eqIntS.f k bt278.1 t263).bind fun t282 => (if t282 = true then (laws_FnExactBackPath.j0 k l2 t263 t266 t273 bt278.1 bt278.2 (bt278.2 != t266) a0_0 a0_1 l0_2 a1_0 a1_1 t267 t268 t269) else (laws_FnExactBackPath.j0 k l2 t263 t266 t273 bt278.1 bt278.2 true a0_0 a0_1 l0_2 a1_0 a1_1 t267 t268 t269)))) = some r := H
 have A20 := Aside0.mk A200
 clear A200
 replace H := Option.bind_eq_some_iff.mp H
 obtain ⟨⟨t278, t281⟩, A210, H⟩ := H
 replace H : ((laws_eqIntS.f k t278 t263).bind fun t282 => (if t282 = true then (laws_FnExactBackPath.j0 k l2 t263 t266 t273 t278 t281 (t281 != t266) a0_0 a0_1 l0_2 a1_0 a1_1 t267 t268 t269) else (laws_FnExactBackPath.j0 k l2 t263 t266 t273 t278 t281 true a0_0 a0_1 l0_2 a1_0 a1_1 t267 t268 t269))) = some r := H
 have A21 := Aside0.mk A210
 clear A210
 have HC22 := Aside0.mk H
 clear H
 go_enter Try.func3, Try.ntmps3
 try go_wp2_with (first | ((with_reducible refine gate_dst (N := 3) rfl ?_); refine box_event ?hg (N := 3) ?hd (cs := #[.int .i64 a0_0, .int .i64 a0_1, .slice A0_2 l0_2.length c0_2]) (t := 24) ?hr ?_; (case hd => rfl); (case hg => rfl); (case hr => first | (go_simp; done) | (go_simp; rfl)); intro gb250 hg w23 hbox hb; have n0_ := Aside0.mk (below_step zj15 hb); have n1_ := Aside0.mk (hbox); have n2_ := Aside0.mk ((zj54 : w.heap.size ≤ gb250)); have n3_ := Aside0.mk ((zj54 : w.heap.size ≤ gb250)); clear HB; have HB := n0_; have BK250 := n1_; have GW250 := n2_; have GE250 := n3_; clear n0_ n1_ n2_ n3_; clear hb hbox hg) | ((with_reducible refine gate_dst (N := 4) rfl ?_); refine box_event ?hg (N := 4) ?hd (cs := #[.int .i64 a1_0, .int .i64 a1_1]) (t := 26) ?hr ?_; (case hd => rfl); (case hg => rfl); (case hr => first | (go_simp; done) | (go_simp; rfl)); intro gb251 hg w24 hbox hb; have n0_ := Aside0.mk (blk_below (g := gb250) (o := .cells #[.int .i64 a0_0, .int .i64 a0_1, .slice A0_2 l0_2.length c0_2] 24 (0, 0)) zj2 hb); have n1_ := Aside0.mk (below_step zj11 hb); have n2_ := Aside0.mk (hbox); have n3_ := Aside0.mk ((zj55 : w.heap.size ≤ gb251)); have n4_ := Aside0.mk ((zj55 : w.heap.size ≤ gb251)); have n5_ := Aside0.mk ((zj52 : gb250 ≠ gb251)); have n6_ := Aside0.mk ((zj53 : gb251 ≠ gb250)); clear BK250; clear HB; have BK250 := n0_; have HB := n1_; have BK251 := n2_; have GW251 := n3_; have GE251 := n4_; have NB250_251 := n5_; have NB251_250 := n6_; clear n0_ n1_ n2_ n3_ n4_ n5_ n6_; clear hb hbox hg; have hnb25 := NB250_251.out; have hnc25 := NB251_250.out; have hcz26_0 : w24.cell? ⟨gb250, 0, none⟩ = some (.int .i64 a0_0) := (blk_cell BK250.out 0).trans rfl; have hcz26_1 : w24.cell? ⟨gb250, 1, none⟩ = some (.int .i64 a0_1) := (blk_cell BK250.out 1).trans rfl; have hcz26_2 : w24.cell? ⟨gb250, 2, none⟩ = some (.slice A0_2 l0_2.length c0_2) := (blk_cell BK250.out 2).trans rfl; have hfz26_0 := blk_frozen BK250.out 0; have hfz26_1 := blk_frozen BK250.out 1; have hfz26_2 := blk_frozen BK250.out 2) | ((with_reducible refine gate_callee (f := 15) rfl ?_); refine goesL_ (some 24) rfl rfl Try.func15 (by kernel_rfl) rfl #[.agg #[.int .i64 a0_0, .int .i64 a0_1, .slice A0_2 l0_2.length c0_2], .int .i64 1048576] rfl zj3 ?_; (with_reducible refine (laws_szBoard.calls a0_0 a0_1 _ _ l0_2 1048576 t252 _ ?side1 ?side2 A7.out).mono ?_); (case side1 => exact zj13); (case side2 => exact HC0_2.out); rintro e w27 ⟨rfl, hb⟩; refine ⟨_, rfl, ?_⟩; have n0_ := Aside0.mk (blk_below (g := gb250) (o := .cells #[.int .i64 a0_0, .int .i64 a0_1, .slice A0_2 l0_2.length c0_2] 24 (0, 0)) zj2 hb); have n1_ := Aside0.mk (blk_below (g := gb251) (o := .cells #[.int .i64 a1_0, .int .i64 a1_1] 26 (0, 0)) zj4 hb); have n2_ := Aside0.mk (below_step zj6 hb); clear BK250; clear BK251; clear HB; have BK250 := n0_; have BK251 := n1_; have HB := n2_; clear n0_ n1_ n2_; (try clear hb); (try clear hb2); (try clear hk); (try clear hi); (try clear hna_); (try clear hnb_)))
 have n0_ := Aside0.mk (blk_drew BK250.out)
 have n1_ := Aside0.mk (blk_drew BK251.out)
 have n2_ := Aside0.mk (below_drew1 HB.out)
 clear BK250
 clear BK251
 clear HB
 have BK250 := n0_
 have BK251 := n1_
 have HB := n2_
 clear n0_ n1_ n2_
 refine start_ (n := 12) (S := fun w' => w'.cell? ⟨gb250, 0, none⟩ = some (.int .i64 a0_0) ∧ w'.cell? ⟨gb250, 1, none⟩ = some (.int .i64 a0_1) ∧ w'.cell? ⟨gb250, 2, none⟩ = some (.slice A0_2 l0_2.length c0_2) ∧ w'.cell? ⟨gb251, 0, none⟩ = some (.int .i64 a1_0) ∧ w'.cell? ⟨gb251, 1, none⟩ = some (.int .i64 a1_1)) (ds := []) #[false, false, false, false, false, false, false, false, false, false, false, false] (by kernel_rfl) rfl rfl ⟨(blk_cell BK250.out 0).trans rfl, (blk_cell BK250.out 1).trans rfl, (blk_cell BK250.out 2).trans rfl, (blk_cell BK251.out 0).trans rfl, (blk_cell BK251.out 1).trans rfl⟩ (fun hHeld => ?_); refine with_tabW laws_FnExactBackPath.tab7 laws_FnExactBackPath.bits7 (fun HT_ HW_ => ?_)
 generalize w27.drew = w28 at BK250 BK251 HB hHeld ⊢
 refine pure_ (i := 4) (N := some 32) (v := ?_) (a' := ?_) #[false, false, false, false, true, false, false, false, false, false, false, false] rfl rfl (any_of HT_.out (by kernel_rfl)) (fun _ _ _ h => h) (Or.inl ⟨by rfl, ?_⟩) ?_ ?_
 rotate_left
 ·intro w'
  go_simp
  with_reducible rfl
 rotate_left
 ·simp only [Act.put, List.setIfInBounds_toArray, List.set_cons_zero, List.set_cons_succ, i64_w, i32_w]
  rfl
 refine take_ (i := 0) (N := some 28) (v := ?_) (a' := ?_) #[true, false, false, false, true, false, false, false, false, false, false, false] rfl rfl (take_ofW HT_.out HW_.out (by kernel_rfl)) (fun _ _ _ h => h) (Or.inl ⟨by rfl, ?_⟩) hHeld ?_ ?_
 rotate_left
 ·rintro w' ⟨s0, s1, s2, s3, s4⟩
  go_simp
  with_reducible rfl
 rotate_left
 ·simp only [Act.put, List.setIfInBounds_toArray, List.set_cons_zero, List.set_cons_succ, i64_w, i32_w]
  rfl
 refine take_ (i := 2) (N := some 30) (v := ?_) (a' := ?_) #[true, false, true, false, true, false, false, false, false, false, false, false] rfl rfl (take_ofW HT_.out HW_.out (by kernel_rfl)) (fun _ _ _ h => h) (Or.inl ⟨by rfl, ?_⟩) hHeld ?_ ?_
 rotate_left
 ·rintro w' ⟨s0, s1, s2, s3, s4⟩
  go_simp
  with_reducible rfl
 rotate_left
 ·simp only [Act.put, List.setIfInBounds_toArray, List.set_cons_zero, List.set_cons_succ, i64_w, i32_w]
  rfl
 refine one_ (i := 1) (N := some 29) #[true, true, true, false, true, false, false, false, false, false, false, false] rfl rfl (one_of HT_.out (by kernel_rfl)) (by decide) (fun K hK => ?_)
 refine goes_ Try.func17 (by kernel_rfl) rfl #[.agg #[.int .i64 a0_0, .int .i64 a0_1, .slice A0_2 l0_2.length c0_2]] (by rfl) rfl rfl zj3 ?_
 with_reducible refine (laws_toBoard.calls k a0_0 a0_1 _ _ l0_2 t253 t254 t255 _ ?side1 ?side2 A14.out).mono ?_
 (case side1 => exact zj13)
 (case side2 => exact HC0_2.out)
 rintro e w29 ⟨v256, rfl, ho0, hb⟩
 refine ⟨_, rfl, ?_⟩
 have n0_ := Aside0.mk (Kd.R_lower ho0 (below_size zj6))
 have n1_ := Aside0.mk (blk_below (g := gb250) (o := .cells #[.int .i64 a0_0, .int .i64 a0_1, .slice A0_2 l0_2.length c0_2] 24 (0, 0)) zj2 hb)
 have n2_ := Aside0.mk (blk_below (g := gb251) (o := .cells #[.int .i64 a1_0, .int .i64 a1_1] 26 (0, 0)) zj4 hb)
 have n3_ := Aside0.mk (below_step zj6 hb)
 clear BK250
 clear BK251
 clear HB
 have HO257 := n0_
 have BK250 := n1_
 have BK251 := n2_
 have HB := n3_
 clear n0_ n1_ n2_ n3_
 (try clear hb)
 (try clear hb2)
 (try clear hk)
 (try clear hi)
 (try clear ho0)
 (try clear hna_)
 (try clear hnb_)
 refine hK.out _ _ ⟨(blk_cell BK250.out 0).trans rfl, (blk_cell BK250.out 1).trans rfl, (blk_cell BK250.out 2).trans rfl, (blk_cell BK251.out 0).trans rfl, (blk_cell BK251.out 1).trans rfl⟩ (fun hHeld => ?_)
 clear hK K
 refine norm_ (a' := ?_) ?_ ?_
 rotate_left
 ·show Act.put _ (some 29) _ = _
  simp only [Act.put, List.setIfInBounds_toArray, List.set_cons_zero, List.set_cons_succ, i64_w, i32_w]
  rfl
 refine one_ (i := 3) (N := some 31) #[true, true, true, true, true, false, false, false, false, false, false, false] rfl rfl (one_of HT_.out (by kernel_rfl)) (by decide) (fun K hK => ?_)
 refine goes_ Try.func18 (by kernel_rfl) rfl #[.agg #[.int .i64 a1_0, .int .i64 a1_1]] (by rfl) rfl rfl zj3 ?_
 with_reducible refine (laws_toLeaper.calls a1_0 a1_1 t258 t259 _ A15.out).mono ?_
 rintro e w30 ⟨rfl, hb⟩
 refine ⟨_, rfl, ?_⟩
 have n0_ := Aside0.mk (Kd.R_below zj16 hb)
 have n1_ := Aside0.mk (blk_below (g := gb250) (o := .cells #[.int .i64 a0_0, .int .i64 a0_1, .slice A0_2 l0_2.length c0_2] 24 (0, 0)) zj2 hb)
 have n2_ := Aside0.mk (blk_below (g := gb251) (o := .cells #[.int .i64 a1_0, .int .i64 a1_1] 26 (0, 0)) zj4 hb)
 have n3_ := Aside0.mk (below_step zj6 hb)
 clear HO257
 clear BK250
 clear BK251
 clear HB
 have HO257 := n0_
 have BK250 := n1_
 have BK251 := n2_
 have HB := n3_
 clear n0_ n1_ n2_ n3_
 (try clear hb)
 (try clear hb2)
 (try clear hk)
 (try clear hi)
 (try clear hna_)
 (try clear hnb_)
 refine hK.out _ _ ⟨(blk_cell BK250.out 0).trans rfl, (blk_cell BK250.out 1).trans rfl, (blk_cell BK250.out 2).trans rfl, (blk_cell BK251.out 0).trans rfl, (blk_cell BK251.out 1).trans rfl⟩ (fun hHeld => ?_)
 clear hK K
 refine norm_ (a' := ?_) ?_ ?_
 rotate_left
 ·show Act.put _ (some 31) _ = _
  simp only [Act.put, List.setIfInBounds_toArray, List.set_cons_zero, List.set_cons_succ, i64_w, i32_w]
  rfl
 refine one_ (i := 5) (N := some 33) #[true, true, true, true, true, true, false, false, false, false, false, false] rfl rfl (one_of HT_.out (by kernel_rfl)) (by decide) (fun K hK => ?_)
 refine goes_ Try.func19 (by kernel_rfl) rfl #[.slice A2 l2.length c2] (by rfl) rfl rfl zj3 ?_
 with_reducible refine (laws_toIntS.calls k _ _ l2 t260 _ ?side1 ?side2 A16.out).mono ?_
 (case side1 => exact zj21)
 (case side2 => exact HC2.out)
 rintro e w31 ⟨v261, rfl, ho0, hb⟩
 refine ⟨_, rfl, ?_⟩
 have n0_ := Aside0.mk (Kd.R_elder' zj16 (Kd.R_base ho0) hb)
 have n1_ := Aside0.mk (Kd.R_lower (Kd.R_new' ho0 (Kd.R_lt zj16)) (below_size zj6))
 have n2_ := Aside0.mk (blk_below (g := gb250) (o := .cells #[.int .i64 a0_0, .int .i64 a0_1, .slice A0_2 l0_2.length c0_2] 24 (0, 0)) zj2 hb)
 have n3_ := Aside0.mk (blk_below (g := gb251) (o := .cells #[.int .i64 a1_0, .int .i64 a1_1] 26 (0, 0)) zj4 hb)
 have n4_ := Aside0.mk (below_step zj6 hb)
 clear HO257
 clear BK250
 clear BK251
 clear HB
 have HO257 := n0_
 have HO262 := n1_
 have BK250 := n2_
 have BK251 := n3_
 have HB := n4_
 clear n0_ n1_ n2_ n3_ n4_
 (try clear hb)
 (try clear hb2)
 (try clear hk)
 (try clear hi)
 (try clear ho0)
 (try clear hna_)
 (try clear hnb_)
 obtain ⟨Ao32, co32, eo32⟩ := Kd.R_slice HO257.out
 (first | subst eo32 | (injection eo32 with f1_ f2_ f3_; have f4_ := f1_.symm; have f5_ := f3_.symm; clear f1_ f2_ f3_; subst f4_; subst f5_))
 obtain ⟨Ao33, co33, eo33⟩ := Kd.R_slice HO262.out
 (first | subst eo33 | (injection eo33 with f1_ f2_ f3_; have f4_ := f1_.symm; have f5_ := f3_.symm; clear f1_ f2_ f3_; subst f4_; subst f5_))
 refine hK.out _ _ ⟨(blk_cell BK250.out 0).trans rfl, (blk_cell BK250.out 1).trans rfl, (blk_cell BK250.out 2).trans rfl, (blk_cell BK251.out 0).trans rfl, (blk_cell BK251.out 1).trans rfl⟩ (fun hHeld => ?_)
 clear hK K
 refine norm_ (a' := ?_) ?_ ?_
 rotate_left
 ·show Act.put _ (some 33) _ = _
  simp only [Act.put, List.setIfInBounds_toArray, List.set_cons_zero, List.set_cons_succ, i64_w, i32_w]
  rfl
 refine one_ (i := 6) (N := some 34) #[true, true, true, true, true, true, true, false, false, false, false, false] rfl rfl (one_of HT_.out (by kernel_rfl)) (by decide) (fun K hK => ?_)
 refine goes_ Try.func16 (by kernel_rfl) rfl #[.agg #[.int .i64 t253, .int .i64 t254, .slice Ao32 t255.length co32], .agg #[.int .i64 t258, .int .i64 t259], .slice Ao33 t260.length co33] (by rfl) rfl rfl zj3 ?_
 with_reducible refine (spec_BackPath.calls k t253 t254 _ _ t255 t258 t259 _ _ t260 t263 t266 _ ?side1 ?side2 ?side3 ?side4 A17.out).mono ?_
 (case side1 => repeat (first | exact (Kd.R_reads' HO257.out).2.2 | (with_reducible refine Kd.C_alloc ?_ _) | (with_reducible refine Kd.C_drewN ?_ _) | (with_reducible refine Kd.C_drew ?_)))
 (case side2 => exact (Kd.R_reads' HO257.out).2.1)
 (case side3 => repeat (first | exact (Kd.R_reads' HO262.out).2.2 | (with_reducible refine Kd.C_alloc ?_ _) | (with_reducible refine Kd.C_drewN ?_ _) | (with_reducible refine Kd.C_drew ?_)))
 (case side4 => exact (Kd.R_reads' HO262.out).2.1)
 rintro e w34 ⟨v264, rfl, ho0, hb⟩
 refine ⟨_, rfl, ?_⟩
 have n0_ := Aside0.mk (Kd.R_elder' zj16 (Kd.R_base ho0) hb)
 have n1_ := Aside0.mk (Kd.R_elder' zj18 (Kd.R_base ho0) hb)
 have n2_ := Aside0.mk (Kd.R_lower (Kd.R_new' (Kd.R_new' ho0 (Kd.R_lt zj16)) (Kd.R_lt zj18)) (below_size zj6))
 have n3_ := Aside0.mk (blk_below (g := gb250) (o := .cells #[.int .i64 a0_0, .int .i64 a0_1, .slice A0_2 l0_2.length c0_2] 24 (0, 0)) zj2 hb)
 have n4_ := Aside0.mk (blk_below (g := gb251) (o := .cells #[.int .i64 a1_0, .int .i64 a1_1] 26 (0, 0)) zj4 hb)
 have n5_ := Aside0.mk (below_step zj6 hb)
 clear HO257
 clear HO262
 clear BK250
 clear BK251
 clear HB
 have HO257 := n0_
 have HO262 := n1_
 have HO265 := n2_
 have BK250 := n3_
 have BK251 := n4_
 have HB := n5_
 clear n0_ n1_ n2_ n3_ n4_ n5_
 (try clear hb)
 (try clear hb2)
 (try clear hk)
 (try clear hi)
 (try clear ho0)
 (try clear hna_)
 (try clear hnb_)
 refine hK.out _ _ ⟨(blk_cell BK250.out 0).trans rfl, (blk_cell BK250.out 1).trans rfl, (blk_cell BK250.out 2).trans rfl, (blk_cell BK251.out 0).trans rfl, (blk_cell BK251.out 1).trans rfl⟩ (fun hHeld => ?_)
 clear hK K
 refine norm_ (a' := ?_) ?_ ?_
 rotate_left
 ·show Act.put _ (some 34) _ = _
  simp only [Act.put, List.setIfInBounds_toArray, List.set_cons_zero, List.set_cons_succ, i64_w, i32_w]
  rfl
 refine pure_ (i := 7) (N := some 27) (v := ?_) (a' := ?_) #[true, true, true, true, true, true, true, true, false, false, false, false] rfl rfl (any_of HT_.out (by kernel_rfl)) (fun _ _ _ h => h) (Or.inl ⟨by rfl, ?_⟩) ?_ ?_
 rotate_left
 ·intro w'
  go_simp
  with_reducible rfl
 rotate_left
 ·simp only [Act.put, List.setIfInBounds_toArray, List.set_cons_zero, List.set_cons_succ, i64_w, i32_w]
  rfl
 refine pure_ (i := 8) (N := some 35) (v := ?_) (a' := ?_) #[true, true, true, true, true, true, true, true, true, false, false, false] rfl rfl (any_of HT_.out (by kernel_rfl)) (fun _ _ _ h => h) (Or.inl ⟨by rfl, ?_⟩) ?_ ?_
 rotate_left
 ·intro w'
  go_simp
  with_reducible rfl
 rotate_left
 ·simp only [Act.put, List.setIfInBounds_toArray, List.set_cons_zero, List.set_cons_succ, i64_w, i32_w]
  rfl
 refine pure_ (i := 9) (N := some 36) (v := ?_) (a' := ?_) #[true, true, true, true, true, true, true, true, true, true, false, false] rfl rfl (any_of HT_.out (by kernel_rfl)) (fun _ _ _ h => h) (Or.inl ⟨by rfl, ?_⟩) ?_ ?_
 rotate_left
 ·intro w'
  go_simp
  with_reducible rfl
 rotate_left
 ·simp only [Act.put, List.setIfInBounds_toArray, List.set_cons_zero, List.set_cons_succ, i64_w, i32_w]
  rfl
 refine pure_ (i := 10) (N := some 8) (v := ?_) (a' := ?_) #[true, true, true, true, true, true, true, true, true, true, true, false] rfl rfl (any_of HT_.out (by kernel_rfl)) (fun _ _ _ h => h) (Or.inl ⟨by rfl, ?_⟩) ?_ ?_
 rotate_left
 ·intro w'
  go_simp
  with_reducible rfl
 rotate_left
 ·simp only [Act.put, List.setIfInBounds_toArray, List.set_cons_zero, List.set_cons_succ, i64_w, i32_w]
  rfl
 refine pure_ (i := 11) (N := some 9) (v := ?_) (a' := ?_) #[true, true, true, true, true, true, true, true, true, true, true, true] rfl rfl (any_of HT_.out (by kernel_rfl)) (fun _ _ _ h => h) (Or.inl ⟨by rfl, ?_⟩) ?_ ?_
 rotate_left
 ·intro w'
  go_simp
  with_reducible rfl
 rotate_left
 ·simp only [Act.put, List.setIfInBounds_toArray, List.set_cons_zero, List.set_cons_succ, i64_w, i32_w]
  rfl
 refine done_ (done_of HT_.out (by kernel_rfl)) ?_
 have hcz35_0 : w34.cell? ⟨gb250, 0, none⟩ = some (.int .i64 a0_0) := (blk_cell BK250.out 0).trans rfl
 have hcz35_1 : w34.cell? ⟨gb250, 1, none⟩ = some (.int .i64 a0_1) := (blk_cell BK250.out 1).trans rfl
 have hcz35_2 : w34.cell? ⟨gb250, 2, none⟩ = some (.slice A0_2 l0_2.length c0_2) := (blk_cell BK250.out 2).trans rfl
 have hfz35_0 := blk_frozen BK250.out 0
 have hfz35_1 := blk_frozen BK250.out 1
 have hfz35_2 := blk_frozen BK250.out 2
 try go_wp2_with (first | ((with_reducible refine gate_callee (f := 17) rfl ?_); refine goesL_ (some 38) rfl rfl Try.func17 (by kernel_rfl) rfl #[.agg #[.int .i64 a0_0, .int .i64 a0_1, .slice A0_2 l0_2.length c0_2]] rfl zj3 ?_; (with_reducible refine (laws_toBoard.calls k a0_0 a0_1 _ _ l0_2 t267 t268 t269 _ ?side1 ?side2 A18.out).mono ?_); (case side1 => exact zj13); (case side2 => exact HC0_2.out); rintro e w36 ⟨v270, rfl, ho0, hb⟩; refine ⟨_, rfl, ?_⟩; have n0_ := Aside0.mk (Kd.R_elder' zj16 (Kd.R_base ho0) hb); have n1_ := Aside0.mk (Kd.R_elder' zj18 (Kd.R_base ho0) hb); have n2_ := Aside0.mk (Kd.R_elder' zj20 (Kd.R_base ho0) hb); have n3_ := Aside0.mk (Kd.R_lower (Kd.R_new' (Kd.R_new' (Kd.R_new' ho0 (Kd.R_lt zj16)) (Kd.R_lt zj18)) (Kd.R_lt zj20)) (below_size zj6)); have n4_ := Aside0.mk (blk_below (g := gb250) (o := .cells #[.int .i64 a0_0, .int .i64 a0_1, .slice A0_2 l0_2.length c0_2] 24 (0, 0)) zj2 hb); have n5_ := Aside0.mk (blk_below (g := gb251) (o := .cells #[.int .i64 a1_0, .int .i64 a1_1] 26 (0, 0)) zj4 hb); have n6_ := Aside0.mk (below_step zj6 hb); clear HO257; clear HO262; clear HO265; clear BK250; clear BK251; clear HB; have HO257 := n0_; have HO262 := n1_; have HO265 := n2_; have HO271 := n3_; have BK250 := n4_; have BK251 := n5_; have HB := n6_; clear n0_ n1_ n2_ n3_ n4_ n5_ n6_; (try clear hb); (try clear hb2); (try clear hk); (try clear hi); (try clear ho0); (try clear hna_); (try clear hnb_)) | ((with_reducible refine gate_dst (N := 10) rfl ?_); refine box_event ?hg (N := 10) ?hd (cs := #[.int .i64 0, .int .i64 0, .slice none 0 0]) (t := 30) ?hr ?_; (case hd => rfl); (case hg => rfl); (case hr => first | (go_simp; done) | (go_simp; rfl)); intro gb272 hg w37 hbox hb; have n0_ := Aside0.mk (Kd.R_below zj16 hb); have n1_ := Aside0.mk (Kd.R_below zj18 hb); have n2_ := Aside0.mk (Kd.R_below zj20 hb); have n3_ := Aside0.mk (Kd.R_below zj31 hb); have n4_ := Aside0.mk (blk_below (g := gb250) (o := .cells #[.int .i64 a0_0, .int .i64 a0_1, .slice A0_2 l0_2.length c0_2] 24 (0, 0)) zj2 hb); have n5_ := Aside0.mk (blk_below (g := gb251) (o := .cells #[.int .i64 a1_0, .int .i64 a1_1] 26 (0, 0)) zj4 hb); have n6_ := Aside0.mk (below_step zj6 hb); have n7_ := Aside0.mk (hbox); have n8_ := Aside0.mk ((by rw [hg]; exact (below_size zj6) : w.heap.size ≤ gb272)); have n9_ := Aside0.mk ((by rw [hg]; exact (below_size zj6) : w.heap.size ≤ gb272)); have n10_ := Aside0.mk ((zj52 : gb250 ≠ gb272)); have n11_ := Aside0.mk ((zj53 : gb272 ≠ gb250)); have n12_ := Aside0.mk ((by rw [hg]; exact Nat.ne_of_lt (blk_lt (g := gb251) (o := .cells #[.int .i64 a1_0, .int .i64 a1_1] 26 (0, 0)) zj4) : gb251 ≠ gb272)); have n13_ := Aside0.mk ((by rw [hg]; exact Nat.ne_of_gt (blk_lt (g := gb251) (o := .cells #[.int .i64 a1_0, .int .i64 a1_1] 26 (0, 0)) zj4) : gb272 ≠ gb251)); clear HO257; clear HO262; clear HO265; clear HO271; clear BK250; clear BK251; clear HB; have HO257 := n0_; have HO262 := n1_; have HO265 := n2_; have HO271 := n3_; have BK250 := n4_; have BK251 := n5_; have HB := n6_; have BK272 := n7_; have GW272 := n8_; have GE272 := n9_; have NB250_272 := n10_; have NB272_250 := n11_; have NB251_272 := n12_; have NB272_251 := n13_; clear n0_ n1_ n2_ n3_ n4_ n5_ n6_ n7_ n8_ n9_ n10_ n11_ n12_ n13_; clear hb hbox hg; have hnb38 := NB272_250.out; have hnc38 := NB250_272.out; have hnb39 := NB272_251.out; have hnc39 := NB251_272.out; have hcz40_0 : w37.cell? ⟨gb272, 0, none⟩ = some (.int .i64 0) := (blk_cell BK272.out 0).trans rfl; have hcz40_1 : w37.cell? ⟨gb272, 1, none⟩ = some (.int .i64 0) := (blk_cell BK272.out 1).trans rfl; have hcz40_2 : w37.cell? ⟨gb272, 2, none⟩ = some (.slice none 0 0) := (blk_cell BK272.out 2).trans rfl; have hfz40_0 := blk_frozen BK272.out 0; have hfz40_1 := blk_frozen BK272.out 1; have hfz40_2 := blk_frozen BK272.out 2; obtain ⟨Ao41, co41, eo41⟩ := Kd.R_slice HO271.out; subst eo41) | ((with_reducible refine gate_callee (f := 19) rfl ?_); refine goesL_ (some 40) rfl rfl Try.func19 (by kernel_rfl) rfl #[.slice A2 l2.length c2] rfl zj3 ?_; (with_reducible refine (laws_toIntS.calls k _ _ l2 t273 _ ?side1 ?side2 A19.out).mono ?_); (case side1 => exact Kd.C_below HR2.out zj1); (case side2 => exact HC2.out); rintro e w42 ⟨v274, rfl, ho0, hb⟩; refine ⟨_, rfl, ?_⟩; have n0_ := Aside0.mk (Kd.R_elder' zj27 (Kd.R_base ho0) hb); have n1_ := Aside0.mk (Kd.R_elder' zj26 (Kd.R_base ho0) hb); have n2_ := Aside0.mk (Kd.R_elder' zj25 (Kd.R_base ho0) hb); have n3_ := Aside0.mk (Kd.R_elder' zj24 (Kd.R_base ho0) hb); have n4_ := Aside0.mk (Kd.R_lower (Kd.R_new' (Kd.R_new' (Kd.R_new' (Kd.R_new' ho0 (Kd.R_lt zj27)) (Kd.R_lt zj26)) (Kd.R_lt zj25)) (Kd.R_lt zj24)) (below_size zj1)); have n5_ := Aside0.mk (blk_below (g := gb250) (o := .cells #[.int .i64 a0_0, .int .i64 a0_1, .slice A0_2 l0_2.length c0_2] 24 (0, 0)) (by (with_reducible repeat (first | refine blk_drewN ?_ _ | refine blk_drew ?_ | refine blk_alloc ?_ _)); refine blk_far ?_ NB250_272.out _; (with_reducible repeat (first | refine blk_drewN ?_ _ | refine blk_drew ?_ | refine blk_alloc ?_ _)); refine blk_far ?_ NB250_272.out _; (with_reducible repeat (first | refine blk_drewN ?_ _ | refine blk_drew ?_ | refine blk_alloc ?_ _)); refine blk_far ?_ NB250_272.out _; first | exact BK250.out | ((with_reducible repeat (first | refine blk_drewN ?_ _ | refine blk_drew ?_ | refine blk_alloc ?_ _)); exact BK250.out)) hb); have n6_ := Aside0.mk (blk_below (g := gb251) (o := .cells #[.int .i64 a1_0, .int .i64 a1_1] 26 (0, 0)) (by (with_reducible repeat (first | refine blk_drewN ?_ _ | refine blk_drew ?_ | refine blk_alloc ?_ _)); refine blk_far ?_ NB251_272.out _; (with_reducible repeat (first | refine blk_drewN ?_ _ | refine blk_drew ?_ | refine blk_alloc ?_ _)); refine blk_far ?_ NB251_272.out _; (with_reducible repeat (first | refine blk_drewN ?_ _ | refine blk_drew ?_ | refine blk_alloc ?_ _)); refine blk_far ?_ NB251_272.out _; first | exact BK251.out | ((with_reducible repeat (first | refine blk_drewN ?_ _ | refine blk_drew ?_ | refine blk_alloc ?_ _)); exact BK251.out)) hb); have n7_ := Aside0.mk (blk_below (g := gb272) (o := .cells #[.int .i64 t267, .int .i64 t268, .slice Ao41 t269.length co41] 30 (0, 0)) (by (with_reducible repeat (first | refine blk_drewN ?_ _ | refine blk_drew ?_ | refine blk_alloc ?_ _)); refine blk_put (cs := #[.int .i64 t267, .int .i64 t268, .slice none 0 0]) ?_ 2 _ rfl; (with_reducible repeat (first | refine blk_drewN ?_ _ | refine blk_drew ?_ | refine blk_alloc ?_ _)); refine blk_put (cs := #[.int .i64 t267, .int .i64 0, .slice none 0 0]) ?_ 1 _ rfl; (with_reducible repeat (first | refine blk_drewN ?_ _ | refine blk_drew ?_ | refine blk_alloc ?_ _)); refine blk_put (cs := #[.int .i64 0, .int .i64 0, .slice none 0 0]) ?_ 0 _ rfl; first | exact BK272.out | ((with_reducible repeat (first | refine blk_drewN ?_ _ | refine blk_drew ?_ | refine blk_alloc ?_ _)); exact BK272.out)) hb); have n8_ := Aside0.mk (below_step zj1 hb); clear HO257; clear HO262; clear HO265; clear HO271; clear BK250; clear BK251; clear BK272; clear HB; have HO257 := n0_; have HO262 := n1_; have HO265 := n2_; have HO271 := n3_; have HO275 := n4_; have BK250 := n5_; have BK251 := n6_; have BK272 := n7_; have HB := n8_; clear n0_ n1_ n2_ n3_ n4_ n5_ n6_ n7_ n8_; (try clear hb); (try clear hb2); (try clear hk); (try clear hi); (try clear ho0); (try clear hna_); (try clear hnb_)))
 have n0_ := Aside0.mk (Kd.R_drew HO257.out)
 have n1_ := Aside0.mk (Kd.R_drew HO262.out)
 have n2_ := Aside0.mk (Kd.R_drew HO265.out)
 have n3_ := Aside0.mk (Kd.R_drew HO271.out)
 have n4_ := Aside0.mk (Kd.R_drew HO275.out)
 have n5_ := Aside0.mk (blk_drew BK250.out)
 have n6_ := Aside0.mk (blk_drew BK251.out)
 have n7_ := Aside0.mk (blk_drew BK272.out)
 have n8_ := Aside0.mk (below_drew1 HB.out)
 clear HO257
 clear HO262
 clear HO265
 clear HO271
 clear HO275
 clear BK250
 clear BK251
 clear BK272
 clear HB
 have HO257 := n0_
 have HO262 := n1_
 have HO265 := n2_
 have HO271 := n3_
 have HO275 := n4_
 have BK250 := n5_
 have BK251 := n6_
 have BK272 := n7_
 have HB := n8_
 clear n0_ n1_ n2_ n3_ n4_ n5_ n6_ n7_ n8_
 refine start_ (n := 10) (S := fun w' => w'.cell? ⟨gb272, 0, none⟩ = some (.int .i64 t267) ∧ w'.cell? ⟨gb272, 1, none⟩ = some (.int .i64 t268) ∧ w'.cell? ⟨gb272, 2, none⟩ = some (.slice Ao41 t269.length co41) ∧ w'.cell? ⟨gb251, 0, none⟩ = some (.int .i64 a1_0) ∧ w'.cell? ⟨gb251, 1, none⟩ = some (.int .i64 a1_1)) (ds := []) #[false, false, false, false, false, false, false, false, false, false] (by kernel_rfl) rfl rfl ⟨(blk_cell BK272.out 0).trans rfl, (blk_cell BK272.out 1).trans rfl, (blk_cell BK272.out 2).trans rfl, (blk_cell BK251.out 0).trans rfl, (blk_cell BK251.out 1).trans rfl⟩ (fun hHeld => ?_); refine with_tabW laws_FnExactBackPath.tab10 laws_FnExactBackPath.bits10 (fun HT_ HW_ => ?_)
 generalize w42.drew = w43 at HO257 HO262 HO265 HO271 HO275 BK250 BK251 BK272 HB hHeld ⊢
 refine pure_ (i := 3) (N := some 45) (v := ?_) (a' := ?_) #[false, false, false, true, false, false, false, false, false, false] rfl rfl (any_of HT_.out (by kernel_rfl)) (fun _ _ _ h => h) (Or.inl ⟨by rfl, ?_⟩) ?_ ?_
 rotate_left
 ·intro w'
  go_simp
  with_reducible rfl
 rotate_left
 ·simp only [Act.put, List.setIfInBounds_toArray, List.set_cons_zero, List.set_cons_succ, i64_w, i32_w]
  rfl
 refine take_ (i := 0) (N := some 42) (v := ?_) (a' := ?_) #[true, false, false, true, false, false, false, false, false, false] rfl rfl (take_ofW HT_.out HW_.out (by kernel_rfl)) (fun _ _ _ h => h) (Or.inl ⟨by rfl, ?_⟩) hHeld ?_ ?_
 rotate_left
 ·rintro w' ⟨s0, s1, s2, s3, s4⟩
  go_simp
  with_reducible rfl
 rotate_left
 ·simp only [Act.put, List.setIfInBounds_toArray, List.set_cons_zero, List.set_cons_succ, i64_w, i32_w]
  rfl
 refine take_ (i := 1) (N := some 43) (v := ?_) (a' := ?_) #[true, true, false, true, false, false, false, false, false, false] rfl rfl (take_ofW HT_.out HW_.out (by kernel_rfl)) (fun _ _ _ h => h) (Or.inl ⟨by rfl, ?_⟩) hHeld ?_ ?_
 rotate_left
 ·rintro w' ⟨s0, s1, s2, s3, s4⟩
  go_simp
  with_reducible rfl
 rotate_left
 ·simp only [Act.put, List.setIfInBounds_toArray, List.set_cons_zero, List.set_cons_succ, i64_w, i32_w]
  rfl
 refine one_ (i := 2) (N := some 44) #[true, true, true, true, false, false, false, false, false, false] rfl rfl (one_of HT_.out (by kernel_rfl)) (by decide) (fun K hK => ?_)
 refine goes_ Try.func18 (by kernel_rfl) rfl #[.agg #[.int .i64 a1_0, .int .i64 a1_1]] (by rfl) rfl rfl zj3 ?_
 with_reducible refine (laws_toLeaper.calls a1_0 a1_1 t276 t277 _ A20.out).mono ?_
 rintro e w44 ⟨rfl, hb⟩
 refine ⟨_, rfl, ?_⟩
 have n0_ := Aside0.mk (Kd.R_below zj16 hb)
 have n1_ := Aside0.mk (Kd.R_below zj18 hb)
 have n2_ := Aside0.mk (Kd.R_below zj20 hb)
 have n3_ := Aside0.mk (Kd.R_below zj31 hb)
 have n4_ := Aside0.mk (Kd.R_below zj36 hb)
 have n5_ := Aside0.mk (blk_below (g := gb250) (o := .cells #[.int .i64 a0_0, .int .i64 a0_1, .slice A0_2 l0_2.length c0_2] 24 (0, 0)) zj2 hb)
 have n6_ := Aside0.mk (blk_below (g := gb251) (o := .cells #[.int .i64 a1_0, .int .i64 a1_1] 26 (0, 0)) zj4 hb)
 have n7_ := Aside0.mk (blk_below (g := gb272) (o := .cells #[.int .i64 t267, .int .i64 t268, .slice Ao41 t269.length co41] 30 (0, 0)) zj7 hb)
 have n8_ := Aside0.mk (below_step zj1 hb)
 clear HO257
 clear HO262
 clear HO265
 clear HO271
 clear HO275
 clear BK250
 clear BK251
 clear BK272
 clear HB
 have HO257 := n0_
 have HO262 := n1_
 have HO265 := n2_
 have HO271 := n3_
 have HO275 := n4_
 have BK250 := n5_
 have BK251 := n6_
 have BK272 := n7_
 have HB := n8_
 clear n0_ n1_ n2_ n3_ n4_ n5_ n6_ n7_ n8_
 (try clear hb)
 (try clear hb2)
 (try clear hk)
 (try clear hi)
 (try clear hna_)
 (try clear hnb_)
 obtain ⟨Ao45, co45, eo45⟩ := Kd.R_slice HO275.out
 (first | subst eo45 | (injection eo45 with f1_ f2_ f3_; have f4_ := f1_.symm; have f5_ := f3_.symm; clear f1_ f2_ f3_; subst f4_; subst f5_))
 refine hK.out _ _ ⟨(blk_cell BK272.out 0).trans rfl, (blk_cell BK272.out 1).trans rfl, (blk_cell BK272.out 2).trans rfl, (blk_cell BK251.out 0).trans rfl, (blk_cell BK251.out 1).trans rfl⟩ (fun hHeld => ?_)
 clear hK K
 refine norm_ (a' := ?_) ?_ ?_
 rotate_left
 ·show Act.put _ (some 44) _ = _
  simp only [Act.put, List.setIfInBounds_toArray, List.set_cons_zero, List.set_cons_succ, i64_w, i32_w]
  rfl
 refine one_ (i := 4) (N := some 46) #[true, true, true, true, true, false, false, false, false, false] rfl rfl (one_of HT_.out (by kernel_rfl)) (by decide) (fun K hK => ?_)
 refine goes_ Try.func20 (by kernel_rfl) rfl #[.agg #[.int .i64 t267, .int .i64 t268, .slice Ao41 t269.length co41], .agg #[.int .i64 t276, .int .i64 t277], .slice Ao45 t273.length co45] (by rfl) rfl rfl zj3 ?_
 with_reducible refine (impl_BackPath.calls k t267 t268 _ _ t269 t276 t277 _ _ t273 t278 t281 _ ?side1 ?side2 ?side3 ?side4 A21.out).mono ?_
 (case side1 => repeat (first | exact (Kd.R_reads' HO271.out).2.2 | (with_reducible refine Kd.C_alloc ?_ _) | (with_reducible refine Kd.C_drewN ?_ _) | (with_reducible refine Kd.C_drew ?_)))
 (case side2 => exact (Kd.R_reads' HO271.out).2.1)
 (case side3 => repeat (first | exact (Kd.R_reads' HO275.out).2.2 | (with_reducible refine Kd.C_alloc ?_ _) | (with_reducible refine Kd.C_drewN ?_ _) | (with_reducible refine Kd.C_drew ?_)))
 (case side4 => exact (Kd.R_reads' HO275.out).2.1)
 rintro e w46 ⟨v279, rfl, ho0, hb⟩
 refine ⟨_, rfl, ?_⟩
 have n0_ := Aside0.mk (Kd.R_elder' zj16 (Kd.R_base ho0) hb)
 have n1_ := Aside0.mk (Kd.R_elder' zj18 (Kd.R_base ho0) hb)
 have n2_ := Aside0.mk (Kd.R_elder' zj20 (Kd.R_base ho0) hb)
 have n3_ := Aside0.mk (Kd.R_elder' zj31 (Kd.R_base ho0) hb)
 have n4_ := Aside0.mk (Kd.R_elder' zj36 (Kd.R_base ho0) hb)
 have n5_ := Aside0.mk (Kd.R_lower (Kd.R_new' (Kd.R_new' (Kd.R_new' (Kd.R_new' (Kd.R_new' ho0 (Kd.R_lt zj16)) (Kd.R_lt zj18)) (Kd.R_lt zj20)) (Kd.R_lt zj31)) (Kd.R_lt zj36)) (below_size zj1))
 have n6_ := Aside0.mk (blk_below (g := gb250) (o := .cells #[.int .i64 a0_0, .int .i64 a0_1, .slice A0_2 l0_2.length c0_2] 24 (0, 0)) zj2 hb)
 have n7_ := Aside0.mk (blk_below (g := gb251) (o := .cells #[.int .i64 a1_0, .int .i64 a1_1] 26 (0, 0)) zj4 hb)
 have n8_ := Aside0.mk (blk_below (g := gb272) (o := .cells #[.int .i64 t267, .int .i64 t268, .slice Ao41 t269.length co41] 30 (0, 0)) zj7 hb)
 have n9_ := Aside0.mk (below_step zj1 hb)
 clear HO257
 clear HO262
 clear HO265
 clear HO271
 clear HO275
 clear BK250
 clear BK251
 clear BK272
 clear HB
 have HO257 := n0_
 have HO262 := n1_
 have HO265 := n2_
 have HO271 := n3_
 have HO275 := n4_
 have HO280 := n5_
 have BK250 := n6_
 have BK251 := n7_
 have BK272 := n8_
 have HB := n9_
 clear n0_ n1_ n2_ n3_ n4_ n5_ n6_ n7_ n8_ n9_
 (try clear hb)
 (try clear hb2)
 (try clear hk)
 (try clear hi)
 (try clear ho0)
 (try clear hna_)
 (try clear hnb_)
 refine hK.out _ _ ⟨(blk_cell BK272.out 0).trans rfl, (blk_cell BK272.out 1).trans rfl, (blk_cell BK272.out 2).trans rfl, (blk_cell BK251.out 0).trans rfl, (blk_cell BK251.out 1).trans rfl⟩ (fun hHeld => ?_)
 clear hK K
 refine norm_ (a' := ?_) ?_ ?_
 rotate_left
 ·show Act.put _ (some 46) _ = _
  simp only [Act.put, List.setIfInBounds_toArray, List.set_cons_zero, List.set_cons_succ, i64_w, i32_w]
  rfl
 refine pure_ (i := 5) (N := some 41) (v := ?_) (a' := ?_) #[true, true, true, true, true, true, false, false, false, false] rfl rfl (any_of HT_.out (by kernel_rfl)) (fun _ _ _ h => h) (Or.inl ⟨by rfl, ?_⟩) ?_ ?_
 rotate_left
 ·intro w'
  go_simp
  with_reducible rfl
 rotate_left
 ·simp only [Act.put, List.setIfInBounds_toArray, List.set_cons_zero, List.set_cons_succ, i64_w, i32_w]
  rfl
 refine pure_ (i := 6) (N := some 47) (v := ?_) (a' := ?_) #[true, true, true, true, true, true, true, false, false, false] rfl rfl (any_of HT_.out (by kernel_rfl)) (fun _ _ _ h => h) (Or.inl ⟨by rfl, ?_⟩) ?_ ?_
 rotate_left
 ·intro w'
  go_simp
  with_reducible rfl
 rotate_left
 ·simp only [Act.put, List.setIfInBounds_toArray, List.set_cons_zero, List.set_cons_succ, i64_w, i32_w]
  rfl
 refine pure_ (i := 7) (N := some 48) (v := ?_) (a' := ?_) #[true, true, true, true, true, true, true, true, false, false] rfl rfl (any_of HT_.out (by kernel_rfl)) (fun _ _ _ h => h) (Or.inl ⟨by rfl, ?_⟩) ?_ ?_
 rotate_left
 ·intro w'
  go_simp
  with_reducible rfl
 rotate_left
 ·simp only [Act.put, List.setIfInBounds_toArray, List.set_cons_zero, List.set_cons_succ, i64_w, i32_w]
  rfl
 refine pure_ (i := 8) (N := some 12) (v := ?_) (a' := ?_) #[true, true, true, true, true, true, true, true, true, false] rfl rfl (any_of HT_.out (by kernel_rfl)) (fun _ _ _ h => h) (Or.inl ⟨by rfl, ?_⟩) ?_ ?_
 rotate_left
 ·intro w'
  go_simp
  with_reducible rfl
 rotate_left
 ·simp only [Act.put, List.setIfInBounds_toArray, List.set_cons_zero, List.set_cons_succ, i64_w, i32_w]
  rfl
 refine pure_ (i := 9) (N := some 13) (v := ?_) (a' := ?_) #[true, true, true, true, true, true, true, true, true, true] rfl rfl (any_of HT_.out (by kernel_rfl)) (fun _ _ _ h => h) (Or.inl ⟨by rfl, ?_⟩) ?_ ?_
 rotate_left
 ·intro w'
  go_simp
  with_reducible rfl
 rotate_left
 ·simp only [Act.put, List.setIfInBounds_toArray, List.set_cons_zero, List.set_cons_succ, i64_w, i32_w]
  rfl
 refine done_ (done_of HT_.out (by kernel_rfl)) ?_
 go_upto_region 11 with (fail)
 go_cut [57] (fun v57 wc => ∃ (kq : Nat) (x57_21 : Bool), v57 = .bool x57_21 ∧ Aside0 (laws_FnExactBackPath.j0 kq l2 t263 t266 t273 t278 t281 x57_21 a0_0 a0_1 l0_2 a1_0 a1_1 t267 t268 t269 = some r) ∧ Aside0 (kq ≤ k) ∧ Aside0 (Kd.R (Kd.int .i64) 3 wc w.heap.size (fun k_ => some k_ ≠ ((.slice Ao45 t273.length co45) : Value).ownBlock ∧ some k_ ≠ (v279 : Value).ownBlock ∧ some k_ ≠ ((.slice Ao41 t269.length co41) : Value).ownBlock) v264 t263) ∧ Aside0 (Kd.R (Kd.int .i64) 3 wc w.heap.size (fun k_ => some k_ ≠ (v264 : Value).ownBlock ∧ some k_ ≠ (v279 : Value).ownBlock ∧ some k_ ≠ ((.slice Ao41 t269.length co41) : Value).ownBlock) (.slice Ao45 t273.length co45) t273) ∧ Aside0 (Kd.R (Kd.int .i64) 3 wc w.heap.size (fun k_ => some k_ ≠ (v264 : Value).ownBlock ∧ some k_ ≠ ((.slice Ao45 t273.length co45) : Value).ownBlock ∧ some k_ ≠ ((.slice Ao41 t269.length co41) : Value).ownBlock) v279 t278) ∧ Aside0 (Kd.R (Kd.int .i64) 3 wc w.heap.size (fun k_ => some k_ ≠ (v264 : Value).ownBlock ∧ some k_ ≠ ((.slice Ao45 t273.length co45) : Value).ownBlock ∧ some k_ ≠ (v279 : Value).ownBlock) (.slice Ao41 t269.length co41) t269) ∧ Aside0 (wc.heap[gb250]? = some (.cells #[.int .i64 a0_0, .int .i64 a0_1, (.slice A0_2 l0_2.length c0_2)] 24 (0, 0))) ∧ Aside0 (wc.heap[gb251]? = some (.cells #[.int .i64 a1_0, .int .i64 a1_1] 26 (0, 0))) ∧ Aside0 (wc.heap[gb272]? = some (.cells #[.int .i64 t267, .int .i64 t268, (.slice Ao41 t269.length co41)] 30 (0, 0))) ∧ Aside0 (Below w.heap.size w wc))
 case first =>
  have H := HC22.out
  clear HC22
  replace H := Option.bind_eq_some_iff.mp H
  obtain ⟨t282, A470, H⟩ := H
  replace H : (if t282 = true then (laws_FnExactBackPath.j0 k l2 t263 t266 t273 t278 t281 (t281 != t266) a0_0 a0_1 l0_2 a1_0 a1_1 t267 t268 t269) else (laws_FnExactBackPath.j0 k l2 t263 t266 t273 t278 t281 true a0_0 a0_1 l0_2 a1_0 a1_1 t267 t268 t269)) = some r := H
  have A47 := Aside0.mk A470
  clear A470
  by_cases c48 : t282 = true
  ·subst c48
   have H1 : (laws_FnExactBackPath.j0 k l2 t263 t266 t273 t278 t281 (t281 != t266) a0_0 a0_1 l0_2 a1_0 a1_1 t267 t268 t269) = some r := by rw [if_pos rfl] at H; exact H
   clear H
   have H := H1
   clear H1
   have H' := Aside0.mk H
   clear H
   obtain ⟨Ao49, co49, eo49⟩ := Kd.R_slice HO280.out
   subst eo49
   obtain ⟨Ao50, co50, eo50⟩ := Kd.R_slice HO265.out
   subst eo50
   go_wp2_with (first | ((with_reducible refine gate_callee (f := 21) rfl ?_); refine goesL_ (some 51) rfl rfl Try.func21 (by kernel_rfl) rfl #[.slice Ao49 t278.length co49, .slice Ao50 t263.length co50] rfl zj3 ?_; (with_reducible refine (laws_eqIntS.calls k _ _ t278 _ _ t263 true _ ?side1 ?side2 ?side3 ?side4 A47.out).mono ?_); (case side1 => exact zj47); (case side2 => exact (Kd.R_reads' HO280.out).2.1); (case side3 => exact zj48); (case side4 => exact (Kd.R_reads' HO265.out).2.1); rintro e w' ⟨rfl, ⟨nd, rfl⟩⟩; refine ⟨_, rfl, ?_⟩))
   go_meet
   case rel => exact ⟨_, ((t281 != t266)), zj35, H', ⟨by first | omega | exact Nat.le_refl _⟩, ⟨zj43⟩, ⟨zj41⟩, ⟨zj40⟩, ⟨zj42⟩, ⟨zj2⟩, ⟨zj4⟩, ⟨zj7⟩, ⟨zj1⟩⟩
  replace c48 := Bool.eq_false_iff.mpr c48
  subst c48
  have H1 : (laws_FnExactBackPath.j0 k l2 t263 t266 t273 t278 t281 true a0_0 a0_1 l0_2 a1_0 a1_1 t267 t268 t269) = some r := by rw [if_neg (show ¬ (false = true) by decide)] at H; exact H
  clear H
  have H := H1
  clear H1
  have H' := Aside0.mk H
  clear H
  obtain ⟨Ao51, co51, eo51⟩ := Kd.R_slice HO280.out
  subst eo51
  obtain ⟨Ao52, co52, eo52⟩ := Kd.R_slice HO265.out
  subst eo52
  go_wp2_with (first | ((with_reducible refine gate_callee (f := 21) rfl ?_); refine goesL_ (some 51) rfl rfl Try.func21 (by kernel_rfl) rfl #[.slice Ao51 t278.length co51, .slice Ao52 t263.length co52] rfl zj3 ?_; (with_reducible refine (laws_eqIntS.calls k _ _ t278 _ _ t263 false _ ?side1 ?side2 ?side3 ?side4 A47.out).mono ?_); (case side1 => exact zj47); (case side2 => exact (Kd.R_reads' HO280.out).2.1); (case side3 => exact zj48); (case side4 => exact (Kd.R_reads' HO265.out).2.1); rintro e w' ⟨rfl, ⟨nd, rfl⟩⟩; refine ⟨_, rfl, ?_⟩))
  go_meet
  case rel => exact ⟨_, (true), zj35, H', ⟨by first | omega | exact Nat.le_refl _⟩, ⟨zj43⟩, ⟨zj41⟩, ⟨zj40⟩, ⟨zj42⟩, ⟨zj2⟩, ⟨zj4⟩, ⟨zj7⟩, ⟨zj1⟩⟩
 case rest =>
  clear HC22
  try clear c1; try clear c2; try clear p2; try clear c3; try clear c4; try clear c4b0; try clear c4b1; try clear c8; try clear c8b0; try clear c11; try clear c15; try clear c16; try clear c17; try clear c18; try clear c19; try clear c20; try clear c21; try clear c25; try clear c38; try clear c39; try clear c48; try clear hcz12_0; try clear hcz12_1; try clear hcz12_2; try clear hcz26_0; try clear hcz26_1; try clear hcz26_2; try clear hcz35_0; try clear hcz35_1; try clear hcz35_2; try clear hcz40_0; try clear hcz40_1; try clear hcz40_2; try clear hfz12_0; try clear hfz12_1; try clear hfz12_2; try clear hfz26_0
  try clear hfz26_1; try clear hfz26_2; try clear hfz35_0; try clear hfz35_1; try clear hfz35_2; try clear hfz40_0; try clear hfz40_1; try clear hfz40_2
  obtain ⟨kq, x57_21, rfl, HA, HJ21, HO_8, HO_11, HO_12, HO_273002, BK250, BK251, BK272, HB⟩ := hcut
  cases kq with
  | zero => exact absurd HA.out (by simp [laws_FnExactBackPath.j0])
  | succ kj21 =>
   have H := HA.out
   clear HA
   simp only [laws_FnExactBackPath.j0] at H
   by_cases c53 : x57_21 = true
   ·subst c53
    have H1 : (some false) = some r := by rw [if_pos rfl] at H; exact H
    clear H
    have H := H1
    clear H1
    obtain rfl := Option.some.inj H
    go_wp2
    go_ret
    exact ⟨zj17, zj1⟩
   replace c53 := Bool.eq_false_iff.mpr c53
   subst c53
   have H1 : ((laws_toBoard.f kj21 a0_0 a0_1 l0_2).bind fun bt283 => ((laws_eqBoard.f kj21 t267 t268 t269 bt283.1 bt283.2.1 bt283.2.2).bind fun t288 => (if t288 = true then ((laws_toIntS.f kj21 l2).bind fun t289 => ((laws_eqIntS.f kj21 t273 t289).bind fun t292 => (if t292 = true then ((laws_markBoard.f kj21 t267 t268 t269 1).bind fun bt293 => ((laws_markIntS.f kj21 t273 bt293.1).bind fun bt295 => (if bt295.1 < 0 then (laws_FnExactBackPath.j1 kj21 l2 t263 t266 t278 true a0_0 a0_1 l0_2 a1_0 a1_1) else ((laws_eqIntS.f kj21 t278 t263).bind fun t297 => (if t297 = true then (laws_FnExactBackPath.j1 kj21 l2 t263 t266 t278 (t281 != t266) a0_0 a0_1 l0_2 a1_0 a1_1) else (laws_FnExactBackPath.j1 kj21 l2 t263 t266 t278 true a0_0 a0_1 l0_2 a1_0 a1_1)))))) else (some false)))) else (some false)))) = some r := by rw [if_neg (show ¬ (false = true) by decide)] at H; exact H
   clear H
   have H := H1
   clear H1
   replace H := Option.bind_eq_some_iff.mp H
   obtain ⟨⟨t283, t284, t285⟩, A540, H⟩ := H
   replace H : ((laws_eqBoard.f kj21 t267 t268 t269 t283 t284 t285).bind fun t288 => (if t288 = true then ((laws_toIntS.f kj21 l2).bind fun t289 => ((laws_eqIntS.f kj21 t273 t289).bind fun t292 => (if t292 = true then ((laws_markBoard.f kj21 t267 t268 t269 1).bind fun bt293 => ((laws_markIntS.f kj21 t273 bt293.1).bind fun bt295 => (if bt295.1 < 0 then (laws_FnExactBackPath.j1 kj21 l2 t263 t266 t278 true a0_0 a0_1 l0_2 a1_0 a1_1) else ((laws_eqIntS.f kj21 t278 t263).bind fun t297 => (if t297 = true then (laws_FnExactBackPath.j1 kj21 l2 t263 t266 t278 (t281 != t266) a0_0 a0_1 l0_2 a1_0 a1_1) else (laws_FnExactBackPath.j1 kj21 l2 t263 t266 t278 true a0_0 a0_1 l0_2 a1_0 a1_1)))))) else (some false)))) else (some false))) = some r := H
   have A54 := Aside0.mk A540
   clear A540
   replace H := Option.bind_eq_some_iff.mp H
   obtain ⟨t288, A550, H⟩ := H
   replace H : (if t288 = true then ((laws_toIntS.f kj21 l2).bind fun t289 => ((laws_eqIntS.f kj21 t273 t289).bind fun t292 => (if t292 = true then ((laws_markBoard.f kj21 t267 t268 t269 1).bind fun bt293 => ((laws_markIntS.f kj21 t273 bt293.1).bind fun bt295 => (if bt295.1 < 0 then (laws_FnExactBackPath.j1 kj21 l2 t263 t266 t278 true a0_0 a0_1 l0_2 a1_0 a1_1) else ((laws_eqIntS.f kj21 t278 t263).bind fun t297 => (if t297 = true then (laws_FnExactBackPath.j1 kj21 l2 t263 t266 t278 (t281 != t266) a0_0 a0_1 l0_2 a1_0 a1_1) else (laws_FnExactBackPath.j1 kj21 l2 t263 t266 t278 true a0_0 a0_1 l0_2 a1_0 a1_1)))))) else (some false)))) else (some false)) = some r := H
   have A55 := Aside0.mk A550
   clear A550
   by_cases c56 : t288 = true
   rotate_left
   ·replace c56 := Bool.eq_false_iff.mpr c56
    subst c56
    have H1 : (some false) = some r := by rw [if_neg (show ¬ (false = true) by decide)] at H; exact H
    clear H
    have H := H1
    clear H1
    obtain rfl := Option.some.inj H
    try go_wp2
    have n0_ := Aside0.mk (Kd.R_drew HO_8.out)
    have n1_ := Aside0.mk (Kd.R_drew HO_11.out)
    have n2_ := Aside0.mk (Kd.R_drew HO_12.out)
    have n3_ := Aside0.mk (Kd.R_drew HO_273002.out)
    have n4_ := Aside0.mk (blk_drew BK250.out)
    have n5_ := Aside0.mk (blk_drew BK251.out)
    have n6_ := Aside0.mk (blk_drew BK272.out)
    have n7_ := Aside0.mk (below_drew1 HB.out)
    clear HO_8
    clear HO_11
    clear HO_12
    clear HO_273002
    clear BK250
    clear BK251
    clear BK272
    clear HB
    have HO_8 := n0_
    have HO_11 := n1_
    have HO_12 := n2_
    have HO_273002 := n3_
    have BK250 := n4_
    have BK251 := n5_
    have BK272 := n6_
    have HB := n7_
    clear n0_ n1_ n2_ n3_ n4_ n5_ n6_ n7_
    refine start_ (n := 5) (S := fun w' => w'.cell? ⟨gb272, 0, none⟩ = some (.int .i64 t267) ∧ w'.cell? ⟨gb272, 1, none⟩ = some (.int .i64 t268) ∧ w'.cell? ⟨gb272, 2, none⟩ = some (.slice Ao41 t269.length co41) ∧ w'.cell? ⟨gb250, 0, none⟩ = some (.int .i64 a0_0) ∧ w'.cell? ⟨gb250, 1, none⟩ = some (.int .i64 a0_1) ∧ w'.cell? ⟨gb250, 2, none⟩ = some (.slice A0_2 l0_2.length c0_2)) (ds := []) #[false, false, false, false, false] (by kernel_rfl) rfl rfl ⟨(blk_cell BK272.out 0).trans rfl, (blk_cell BK272.out 1).trans rfl, (blk_cell BK272.out 2).trans rfl, (blk_cell BK250.out 0).trans rfl, (blk_cell BK250.out 1).trans rfl, (blk_cell BK250.out 2).trans rfl⟩ (fun hHeld => ?_)
    generalize wc.drew = w120 at HO_8 HO_11 HO_12 HO_273002 BK250 BK251 BK272 HB hHeld ⊢
    refine take_ (i := 0) (N := some 58) (v := ?_) (a' := ?_) #[true, false, false, false, false] rfl rfl (by kernel_rfl) (fun _ _ _ h => h) (Or.inl ⟨by rfl, ?_⟩) hHeld ?_ ?_
    rotate_left
    ·rintro w' ⟨s0, s1, s2, s3, s4, s5⟩
     go_simp
     with_reducible rfl
    rotate_left
    ·simp only [Act.put, List.setIfInBounds_toArray, List.set_cons_zero, List.set_cons_succ, i64_w, i32_w]
     rfl
    refine take_ (i := 1) (N := some 59) (v := ?_) (a' := ?_) #[true, true, false, false, false] rfl rfl (by kernel_rfl) (fun _ _ _ h => h) (Or.inl ⟨by rfl, ?_⟩) hHeld ?_ ?_
    rotate_left
    ·rintro w' ⟨s0, s1, s2, s3, s4, s5⟩
     go_simp
     with_reducible rfl
    rotate_left
    ·simp only [Act.put, List.setIfInBounds_toArray, List.set_cons_zero, List.set_cons_succ, i64_w, i32_w]
     rfl
    refine one_ (i := 2) (N := some 60) #[true, true, true, false, false] rfl rfl (by kernel_rfl) (by decide) (fun K hK => ?_)
    refine goes_ Try.func17 (by kernel_rfl) rfl #[.agg #[.int .i64 a0_0, .int .i64 a0_1, .slice A0_2 l0_2.length c0_2]] (by rfl) rfl rfl zj3 ?_
    with_reducible refine (laws_toBoard.calls kj21 a0_0 a0_1 _ _ l0_2 t283 t284 t285 _ ?side1 ?side2 A54.out).mono ?_
    (case side1 => exact zj13)
    (case side2 => exact HC0_2.out)
    rintro e w121 ⟨v286, rfl, ho0, hb⟩
    refine ⟨_, rfl, ?_⟩
    have n0_ := Aside0.mk (Kd.R_elder' zj10 (Kd.R_base ho0) hb)
    have n1_ := Aside0.mk (Kd.R_elder' zj12 (Kd.R_base ho0) hb)
    have n2_ := Aside0.mk (Kd.R_elder' zj9 (Kd.R_base ho0) hb)
    have n3_ := Aside0.mk (Kd.R_elder' zj8 (Kd.R_base ho0) hb)
    have n4_ := Aside0.mk (Kd.R_lower (Kd.R_new' (Kd.R_new' (Kd.R_new' (Kd.R_new' ho0 (Kd.R_lt zj10)) (Kd.R_lt zj12)) (Kd.R_lt zj9)) (Kd.R_lt zj8)) (below_size zj1))
    have n5_ := Aside0.mk (blk_below (g := gb250) (o := .cells #[.int .i64 a0_0, .int .i64 a0_1, .slice A0_2 l0_2.length c0_2] 24 (0, 0)) zj2 hb)
    have n6_ := Aside0.mk (blk_below (g := gb251) (o := .cells #[.int .i64 a1_0, .int .i64 a1_1] 26 (0, 0)) zj4 hb)
    have n7_ := Aside0.mk (blk_below (g := gb272) (o := .cells #[.int .i64 t267, .int .i64 t268, .slice Ao41 t269.length co41] 30 (0, 0)) zj7 hb)
    have n8_ := Aside0.mk (below_step zj1 hb)
    clear HO_8
    clear HO_11
    clear HO_12
    clear HO_273002
    clear BK250
    clear BK251
    clear BK272
    clear HB
    have HO_8 := n0_
    have HO_11 := n1_
    have HO_12 := n2_
    have HO_273002 := n3_
    have HO287 := n4_
    have BK250 := n5_
    have BK251 := n6_
    have BK272 := n7_
    have HB := n8_
    clear n0_ n1_ n2_ n3_ n4_ n5_ n6_ n7_ n8_
    (try clear hb)
    (try clear hb2)
    (try clear hk)
    (try clear hi)
    (try clear ho0)
    (try clear hna_)
    (try clear hnb_)
    obtain ⟨Ao122, co122, eo122⟩ := Kd.R_slice HO287.out
    (first | subst eo122 | (injection eo122 with f1_ f2_ f3_; have f4_ := f1_.symm; have f5_ := f3_.symm; clear f1_ f2_ f3_; subst f4_; subst f5_))
    refine hK.out _ _ ⟨(blk_cell BK272.out 0).trans rfl, (blk_cell BK272.out 1).trans rfl, (blk_cell BK272.out 2).trans rfl, (blk_cell BK250.out 0).trans rfl, (blk_cell BK250.out 1).trans rfl, (blk_cell BK250.out 2).trans rfl⟩ (fun hHeld => ?_)
    clear hK K
    refine norm_ (a' := ?_) ?_ ?_
    rotate_left
    ·show Act.put _ (some 60) _ = _
     simp only [Act.put, List.setIfInBounds_toArray, List.set_cons_zero, List.set_cons_succ, i64_w, i32_w]
     rfl
    refine one_ (i := 3) (N := some 61) #[true, true, true, true, false] rfl rfl (by kernel_rfl) (by decide) (fun K hK => ?_)
    refine goes_ Try.func22 (by kernel_rfl) rfl #[.agg #[.int .i64 t267, .int .i64 t268, .slice Ao41 t269.length co41], .agg #[.int .i64 t283, .int .i64 t284, .slice Ao122 t285.length co122]] (by rfl) rfl rfl zj3 ?_
    with_reducible refine (laws_eqBoard.calls kj21 t267 t268 _ _ t269 t283 t284 _ _ t285 false _ ?side1 ?side2 ?side3 ?side4 A55.out).mono ?_
    (case side1 => exact zj29)
    (case side2 => exact (Kd.R_reads' HO_273002.out).2.1)
    (case side3 => exact zj30)
    (case side4 => exact (Kd.R_reads' HO287.out).2.1)
    rintro e w123 ⟨rfl, hb⟩
    refine ⟨_, rfl, ?_⟩
    have n0_ := Aside0.mk (Kd.R_below zj10 hb)
    have n1_ := Aside0.mk (Kd.R_below zj12 hb)
    have n2_ := Aside0.mk (Kd.R_below zj9 hb)
    have n3_ := Aside0.mk (Kd.R_below zj8 hb)
    have n4_ := Aside0.mk (Kd.R_below zj19 hb)
    have n5_ := Aside0.mk (blk_below (g := gb250) (o := .cells #[.int .i64 a0_0, .int .i64 a0_1, .slice A0_2 l0_2.length c0_2] 24 (0, 0)) zj2 hb)
    have n6_ := Aside0.mk (blk_below (g := gb251) (o := .cells #[.int .i64 a1_0, .int .i64 a1_1] 26 (0, 0)) zj4 hb)
    have n7_ := Aside0.mk (blk_below (g := gb272) (o := .cells #[.int .i64 t267, .int .i64 t268, .slice Ao41 t269.length co41] 30 (0, 0)) zj7 hb)
    have n8_ := Aside0.mk (below_step zj1 hb)
    clear HO_8
    clear HO_11
    clear HO_12
    clear HO_273002
    clear HO287
    clear BK250
    clear BK251
    clear BK272
    clear HB
    have HO_8 := n0_
    have HO_11 := n1_
    have HO_12 := n2_
    have HO_273002 := n3_
    have HO287 := n4_
    have BK250 := n5_
    have BK251 := n6_
    have BK272 := n7_
    have HB := n8_
    clear n0_ n1_ n2_ n3_ n4_ n5_ n6_ n7_ n8_
    (try clear hb)
    (try clear hb2)
    (try clear hk)
    (try clear hi)
    (try clear hna_)
    (try clear hnb_)
    refine hK.out _ _ ⟨(blk_cell BK272.out 0).trans rfl, (blk_cell BK272.out 1).trans rfl, (blk_cell BK272.out 2).trans rfl, (blk_cell BK250.out 0).trans rfl, (blk_cell BK250.out 1).trans rfl, (blk_cell BK250.out 2).trans rfl⟩ (fun hHeld => ?_)
    clear hK K
    refine norm_ (a' := ?_) ?_ ?_
    rotate_left
    ·show Act.put _ (some 61) _ = _
     simp only [Act.put, List.setIfInBounds_toArray, List.set_cons_zero, List.set_cons_succ, i64_w, i32_w]
     rfl
    refine pure_ (i := 4) (N := some 62) (v := ?_) (a' := ?_) #[true, true, true, true, true] rfl rfl (by kernel_rfl) (fun _ _ _ h => h) (Or.inl ⟨by rfl, ?_⟩) ?_ ?_
    rotate_left
    ·intro w'
     go_simp
     with_reducible rfl
    rotate_left
    ·simp only [Act.put, List.setIfInBounds_toArray, List.set_cons_zero, List.set_cons_succ, i64_w, i32_w]
     rfl
    refine done_ (by kernel_rfl) ?_
    try go_wp2
    go_ret
    exact ⟨zj17, zj1⟩
   subst c56
   have H1 : ((laws_toIntS.f kj21 l2).bind fun t289 => ((laws_eqIntS.f kj21 t273 t289).bind fun t292 => (if t292 = true then ((laws_markBoard.f kj21 t267 t268 t269 1).bind fun bt293 => ((laws_markIntS.f kj21 t273 bt293.1).bind fun bt295 => (if bt295.1 < 0 then (laws_FnExactBackPath.j1 kj21 l2 t263 t266 t278 true a0_0 a0_1 l0_2 a1_0 a1_1) else ((laws_eqIntS.f kj21 t278 t263).bind fun t297 => (if t297 = true then (laws_FnExactBackPath.j1 kj21 l2 t263 t266 t278 (t281 != t266) a0_0 a0_1 l0_2 a1_0 a1_1) else (laws_FnExactBackPath.j1 kj21 l2 t263 t266 t278 true a0_0 a0_1 l0_2 a1_0 a1_1)))))) else (some false)))) = some r := by rw [if_pos rfl] at H; exact H
   clear H
   have H := H1
   clear H1
   replace H := Option.bind_eq_some_iff.mp H
   obtain ⟨t289, A570, H⟩ := H
   replace H : ((laws_eqIntS.f kj21 t273 t289).bind fun t292 => (if t292 = true then ((laws_markBoard.f kj21 t267 t268 t269 1).bind fun bt293 => ((laws_markIntS.f kj21 t273 bt293.1).bind fun bt295 => (if bt295.1 < 0 then (laws_FnExactBackPath.j1 kj21 l2 t263 t266 t278 true a0_0 a0_1 l0_2 a1_0 a1_1) else ((laws_eqIntS.f kj21 t278 t263).bind fun t297 => (if t297 = true then (laws_FnExactBackPath.j1 kj21 l2 t263 t266 t278 (t281 != t266) a0_0 a0_1 l0_2 a1_0 a1_1) else (laws_FnExactBackPath.j1 kj21 l2 t263 t266 t278 true a0_0 a0_1 l0_2 a1_0 a1_1)))))) else (some false))) = some r := H
   have A57 := Aside0.mk A570
   clear A570
   replace H := Option.bind_eq_some_iff.mp H
   obtain ⟨t292, A580, H⟩ := H
   replace H : (if t292 = true then ((laws_markBoard.f kj21 t267 t268 t269 1).bind fun bt293 => ((laws_markIntS.f kj21 t273 bt293.1).bind fun bt295 => (if bt295.1 < 0 then (laws_FnExactBackPath.j1 kj21 l2 t263 t266 t278 true a0_0 a0_1 l0_2 a1_0 a1_1) else ((laws_eqIntS.f kj21 t278 t263).bind fun t297 => (if t297 = true then (laws_FnExactBackPath.j1 kj21 l2 t263 t266 t278 (t281 != t266) a0_0 a0_1 l0_2 a1_0 a1_1) else (laws_FnExactBackPath.j1 kj21 l2 t263 t266 t278 true a0_0 a0_1 l0_2 a1_0 a1_1)))))) else (some false)) = some r := H
   have A58 := Aside0.mk A580
   clear A580
   by_cases c59 : t292 = true
   rotate_left
   ·replace c59 := Bool.eq_false_iff.mpr c59
    subst c59
    have H1 : (some false) = some r := by rw [if_neg (show ¬ (false = true) by decide)] at H; exact H
    clear H
    have H := H1
    clear H1
    obtain rfl := Option.some.inj H
    try go_wp2
    have n0_ := Aside0.mk (Kd.R_drew HO_8.out)
    have n1_ := Aside0.mk (Kd.R_drew HO_11.out)
    have n2_ := Aside0.mk (Kd.R_drew HO_12.out)
    have n3_ := Aside0.mk (Kd.R_drew HO_273002.out)
    have n4_ := Aside0.mk (blk_drew BK250.out)
    have n5_ := Aside0.mk (blk_drew BK251.out)
    have n6_ := Aside0.mk (blk_drew BK272.out)
    have n7_ := Aside0.mk (below_drew1 HB.out)
    clear HO_8
    clear HO_11
    clear HO_12
    clear HO_273002
    clear BK250
    clear BK251
    clear BK272
    clear HB
    have HO_8 := n0_
    have HO_11 := n1_
    have HO_12 := n2_
    have HO_273002 := n3_
    have BK250 := n4_
    have BK251 := n5_
    have BK272 := n6_
    have HB := n7_
    clear n0_ n1_ n2_ n3_ n4_ n5_ n6_ n7_
    refine start_ (n := 5) (S := fun w' => w'.cell? ⟨gb272, 0, none⟩ = some (.int .i64 t267) ∧ w'.cell? ⟨gb272, 1, none⟩ = some (.int .i64 t268) ∧ w'.cell? ⟨gb272, 2, none⟩ = some (.slice Ao41 t269.length co41) ∧ w'.cell? ⟨gb250, 0, none⟩ = some (.int .i64 a0_0) ∧ w'.cell? ⟨gb250, 1, none⟩ = some (.int .i64 a0_1) ∧ w'.cell? ⟨gb250, 2, none⟩ = some (.slice A0_2 l0_2.length c0_2)) (ds := []) #[false, false, false, false, false] (by kernel_rfl) rfl rfl ⟨(blk_cell BK272.out 0).trans rfl, (blk_cell BK272.out 1).trans rfl, (blk_cell BK272.out 2).trans rfl, (blk_cell BK250.out 0).trans rfl, (blk_cell BK250.out 1).trans rfl, (blk_cell BK250.out 2).trans rfl⟩ (fun hHeld => ?_)
    generalize wc.drew = w114 at HO_8 HO_11 HO_12 HO_273002 BK250 BK251 BK272 HB hHeld ⊢
    refine take_ (i := 0) (N := some 58) (v := ?_) (a' := ?_) #[true, false, false, false, false] rfl rfl (by kernel_rfl) (fun _ _ _ h => h) (Or.inl ⟨by rfl, ?_⟩) hHeld ?_ ?_
    rotate_left
    ·rintro w' ⟨s0, s1, s2, s3, s4, s5⟩
     go_simp
     with_reducible rfl
    rotate_left
    ·simp only [Act.put, List.setIfInBounds_toArray, List.set_cons_zero, List.set_cons_succ, i64_w, i32_w]
     rfl
    refine take_ (i := 1) (N := some 59) (v := ?_) (a' := ?_) #[true, true, false, false, false] rfl rfl (by kernel_rfl) (fun _ _ _ h => h) (Or.inl ⟨by rfl, ?_⟩) hHeld ?_ ?_
    rotate_left
    ·rintro w' ⟨s0, s1, s2, s3, s4, s5⟩
     go_simp
     with_reducible rfl
    rotate_left
    ·simp only [Act.put, List.setIfInBounds_toArray, List.set_cons_zero, List.set_cons_succ, i64_w, i32_w]
     rfl
    refine one_ (i := 2) (N := some 60) #[true, true, true, false, false] rfl rfl (by kernel_rfl) (by decide) (fun K hK => ?_)
    refine goes_ Try.func17 (by kernel_rfl) rfl #[.agg #[.int .i64 a0_0, .int .i64 a0_1, .slice A0_2 l0_2.length c0_2]] (by rfl) rfl rfl zj3 ?_
    with_reducible refine (laws_toBoard.calls kj21 a0_0 a0_1 _ _ l0_2 t283 t284 t285 _ ?side1 ?side2 A54.out).mono ?_
    (case side1 => exact zj13)
    (case side2 => exact HC0_2.out)
    rintro e w115 ⟨v286, rfl, ho0, hb⟩
    refine ⟨_, rfl, ?_⟩
    have n0_ := Aside0.mk (Kd.R_elder' zj10 (Kd.R_base ho0) hb)
    have n1_ := Aside0.mk (Kd.R_elder' zj12 (Kd.R_base ho0) hb)
    have n2_ := Aside0.mk (Kd.R_elder' zj9 (Kd.R_base ho0) hb)
    have n3_ := Aside0.mk (Kd.R_elder' zj8 (Kd.R_base ho0) hb)
    have n4_ := Aside0.mk (Kd.R_lower (Kd.R_new' (Kd.R_new' (Kd.R_new' (Kd.R_new' ho0 (Kd.R_lt zj10)) (Kd.R_lt zj12)) (Kd.R_lt zj9)) (Kd.R_lt zj8)) (below_size zj1))
    have n5_ := Aside0.mk (blk_below (g := gb250) (o := .cells #[.int .i64 a0_0, .int .i64 a0_1, .slice A0_2 l0_2.length c0_2] 24 (0, 0)) zj2 hb)
    have n6_ := Aside0.mk (blk_below (g := gb251) (o := .cells #[.int .i64 a1_0, .int .i64 a1_1] 26 (0, 0)) zj4 hb)
    have n7_ := Aside0.mk (blk_below (g := gb272) (o := .cells #[.int .i64 t267, .int .i64 t268, .slice Ao41 t269.length co41] 30 (0, 0)) zj7 hb)
    have n8_ := Aside0.mk (below_step zj1 hb)
    clear HO_8
    clear HO_11
    clear HO_12
    clear HO_273002
    clear BK250
    clear BK251
    clear BK272
    clear HB
    have HO_8 := n0_
    have HO_11 := n1_
    have HO_12 := n2_
    have HO_273002 := n3_
    have HO287 := n4_
    have BK250 := n5_
    have BK251 := n6_
    have BK272 := n7_
    have HB := n8_
    clear n0_ n1_ n2_ n3_ n4_ n5_ n6_ n7_ n8_
    (try clear hb)
    (try clear hb2)
    (try clear hk)
    (try clear hi)
    (try clear ho0)
    (try clear hna_)
    (try clear hnb_)
    obtain ⟨Ao116, co116, eo116⟩ := Kd.R_slice HO287.out
    (first | subst eo116 | (injection eo116 with f1_ f2_ f3_; have f4_ := f1_.symm; have f5_ := f3_.symm; clear f1_ f2_ f3_; subst f4_; subst f5_))
    refine hK.out _ _ ⟨(blk_cell BK272.out 0).trans rfl, (blk_cell BK272.out 1).trans rfl, (blk_cell BK272.out 2).trans rfl, (blk_cell BK250.out 0).trans rfl, (blk_cell BK250.out 1).trans rfl, (blk_cell BK250.out 2).trans rfl⟩ (fun hHeld => ?_)
    clear hK K
    refine norm_ (a' := ?_) ?_ ?_
    rotate_left
    ·show Act.put _ (some 60) _ = _
     simp only [Act.put, List.setIfInBounds_toArray, List.set_cons_zero, List.set_cons_succ, i64_w, i32_w]
     rfl
    refine one_ (i := 3) (N := some 61) #[true, true, true, true, false] rfl rfl (by kernel_rfl) (by decide) (fun K hK => ?_)
    refine goes_ Try.func22 (by kernel_rfl) rfl #[.agg #[.int .i64 t267, .int .i64 t268, .slice Ao41 t269.length co41], .agg #[.int .i64 t283, .int .i64 t284, .slice Ao116 t285.length co116]] (by rfl) rfl rfl zj3 ?_
    with_reducible refine (laws_eqBoard.calls kj21 t267 t268 _ _ t269 t283 t284 _ _ t285 true _ ?side1 ?side2 ?side3 ?side4 A55.out).mono ?_
    (case side1 => exact zj29)
    (case side2 => exact (Kd.R_reads' HO_273002.out).2.1)
    (case side3 => exact zj30)
    (case side4 => exact (Kd.R_reads' HO287.out).2.1)
    rintro e w117 ⟨rfl, hb⟩
    refine ⟨_, rfl, ?_⟩
    have n0_ := Aside0.mk (Kd.R_below zj10 hb)
    have n1_ := Aside0.mk (Kd.R_below zj12 hb)
    have n2_ := Aside0.mk (Kd.R_below zj9 hb)
    have n3_ := Aside0.mk (Kd.R_below zj8 hb)
    have n4_ := Aside0.mk (Kd.R_below zj19 hb)
    have n5_ := Aside0.mk (blk_below (g := gb250) (o := .cells #[.int .i64 a0_0, .int .i64 a0_1, .slice A0_2 l0_2.length c0_2] 24 (0, 0)) zj2 hb)
    have n6_ := Aside0.mk (blk_below (g := gb251) (o := .cells #[.int .i64 a1_0, .int .i64 a1_1] 26 (0, 0)) zj4 hb)
    have n7_ := Aside0.mk (blk_below (g := gb272) (o := .cells #[.int .i64 t267, .int .i64 t268, .slice Ao41 t269.length co41] 30 (0, 0)) zj7 hb)
    have n8_ := Aside0.mk (below_step zj1 hb)
    clear HO_8
    clear HO_11
    clear HO_12
    clear HO_273002
    clear HO287
    clear BK250
    clear BK251
    clear BK272
    clear HB
    have HO_8 := n0_
    have HO_11 := n1_
    have HO_12 := n2_
    have HO_273002 := n3_
    have HO287 := n4_
    have BK250 := n5_
    have BK251 := n6_
    have BK272 := n7_
    have HB := n8_
    clear n0_ n1_ n2_ n3_ n4_ n5_ n6_ n7_ n8_
    (try clear hb)
    (try clear hb2)
    (try clear hk)
    (try clear hi)
    (try clear hna_)
    (try clear hnb_)
    refine hK.out _ _ ⟨(blk_cell BK272.out 0).trans rfl, (blk_cell BK272.out 1).trans rfl, (blk_cell BK272.out 2).trans rfl, (blk_cell BK250.out 0).trans rfl, (blk_cell BK250.out 1).trans rfl, (blk_cell BK250.out 2).trans rfl⟩ (fun hHeld => ?_)
    clear hK K
    refine norm_ (a' := ?_) ?_ ?_
    rotate_left
    ·show Act.put _ (some 61) _ = _
     simp only [Act.put, List.setIfInBounds_toArray, List.set_cons_zero, List.set_cons_succ, i64_w, i32_w]
     rfl
    refine pure_ (i := 4) (N := some 62) (v := ?_) (a' := ?_) #[true, true, true, true, true] rfl rfl (by kernel_rfl) (fun _ _ _ h => h) (Or.inl ⟨by rfl, ?_⟩) ?_ ?_
    rotate_left
    ·intro w'
     go_simp
     with_reducible rfl
    rotate_left
    ·simp only [Act.put, List.setIfInBounds_toArray, List.set_cons_zero, List.set_cons_succ, i64_w, i32_w]
     rfl
    refine done_ (by kernel_rfl) ?_
    try go_wp2_with (first | ((with_reducible refine gate_callee (f := 19) rfl ?_); refine goesL_ (some 65) rfl rfl Try.func19 (by kernel_rfl) rfl #[.slice A2 l2.length c2] rfl zj3 ?_; (with_reducible refine (laws_toIntS.calls kj21 _ _ l2 t289 _ ?side1 ?side2 A57.out).mono ?_); (case side1 => exact zj21); (case side2 => exact HC2.out); rintro e w118 ⟨v290, rfl, ho0, hb⟩; refine ⟨_, rfl, ?_⟩; have n0_ := Aside0.mk (Kd.R_elder' zj10 (Kd.R_base ho0) hb); have n1_ := Aside0.mk (Kd.R_elder' zj12 (Kd.R_base ho0) hb); have n2_ := Aside0.mk (Kd.R_elder' zj9 (Kd.R_base ho0) hb); have n3_ := Aside0.mk (Kd.R_elder' zj8 (Kd.R_base ho0) hb); have n4_ := Aside0.mk (Kd.R_elder' zj19 (Kd.R_base ho0) hb); have n5_ := Aside0.mk (Kd.R_lower (Kd.R_new' (Kd.R_new' (Kd.R_new' (Kd.R_new' (Kd.R_new' ho0 (Kd.R_lt zj10)) (Kd.R_lt zj12)) (Kd.R_lt zj9)) (Kd.R_lt zj8)) (Kd.R_lt zj19)) (below_size zj1)); have n6_ := Aside0.mk (blk_below (g := gb250) (o := .cells #[.int .i64 a0_0, .int .i64 a0_1, .slice A0_2 l0_2.length c0_2] 24 (0, 0)) zj2 hb); have n7_ := Aside0.mk (blk_below (g := gb251) (o := .cells #[.int .i64 a1_0, .int .i64 a1_1] 26 (0, 0)) zj4 hb); have n8_ := Aside0.mk (blk_below (g := gb272) (o := .cells #[.int .i64 t267, .int .i64 t268, .slice Ao41 t269.length co41] 30 (0, 0)) zj7 hb); have n9_ := Aside0.mk (below_step zj1 hb); clear HO_8; clear HO_11; clear HO_12; clear HO_273002; clear HO287; clear BK250; clear BK251; clear BK272; clear HB; have HO_8 := n0_; have HO_11 := n1_; have HO_12 := n2_; have HO_273002 := n3_; have HO287 := n4_; have HO291 := n5_; have BK250 := n6_; have BK251 := n7_; have BK272 := n8_; have HB := n9_; clear n0_ n1_ n2_ n3_ n4_ n5_ n6_ n7_ n8_ n9_; (try clear hb); (try clear hb2); (try clear hk); (try clear hi); (try clear ho0); (try clear hna_); (try clear hnb_); obtain ⟨Ao119, co119, eo119⟩ := Kd.R_slice HO291.out; subst eo119) | ((with_reducible refine gate_callee (f := 21) rfl ?_); refine goesL_ (some 66) rfl rfl Try.func21 (by kernel_rfl) rfl #[.slice Ao45 t273.length co45, .slice Ao119 t289.length co119] rfl zj3 ?_; (with_reducible refine (laws_eqIntS.calls kj21 _ _ t273 _ _ t289 false _ ?side1 ?side2 ?side3 ?side4 A58.out).mono ?_); (case side1 => exact zj44); (case side2 => exact (Kd.R_reads' HO_11.out).2.1); (case side3 => exact zj46); (case side4 => exact (Kd.R_reads' HO291.out).2.1); rintro e w' ⟨rfl, ⟨nd, rfl⟩⟩; refine ⟨_, rfl, ?_⟩))
    go_ret
    exact ⟨zj17, zj1⟩
   subst c59
   have H1 : ((laws_markBoard.f kj21 t267 t268 t269 1).bind fun bt293 => ((laws_markIntS.f kj21 t273 bt293.1).bind fun bt295 => (if bt295.1 < 0 then (laws_FnExactBackPath.j1 kj21 l2 t263 t266 t278 true a0_0 a0_1 l0_2 a1_0 a1_1) else ((laws_eqIntS.f kj21 t278 t263).bind fun t297 => (if t297 = true then (laws_FnExactBackPath.j1 kj21 l2 t263 t266 t278 (t281 != t266) a0_0 a0_1 l0_2 a1_0 a1_1) else (laws_FnExactBackPath.j1 kj21 l2 t263 t266 t278 true a0_0 a0_1 l0_2 a1_0 a1_1)))))) = some r := by rw [if_pos rfl] at H; exact H
   clear H
   have H := H1
   clear H1
   replace H := Option.bind_eq_some_iff.mp H
   obtain ⟨⟨t293, t294⟩, A600, H⟩ := H
   replace H : ((laws_markIntS.f kj21 t273 t293).bind fun bt295 => (if bt295.1 < 0 then (laws_FnExactBackPath.j1 kj21 l2 t263 t266 t278 true a0_0 a0_1 l0_2 a1_0 a1_1) else ((laws_eqIntS.f kj21 t278 t263).bind fun t297 => (if t297 = true then (laws_FnExactBackPath.j1 kj21 l2 t263 t266 t278 (t281 != t266) a0_0 a0_1 l0_2 a1_0 a1_1) else (laws_FnExactBackPath.j1 kj21 l2 t263 t266 t278 true a0_0 a0_1 l0_2 a1_0 a1_1))))) = some r := H
   have A60 := Aside0.mk A600
   clear A600
   replace H := Option.bind_eq_some_iff.mp H
   obtain ⟨⟨t295, t296⟩, A610, H⟩ := H
   replace H : (if t295 < 0 then (laws_FnExactBackPath.j1 kj21 l2 t263 t266 t278 true a0_0 a0_1 l0_2 a1_0 a1_1) else ((laws_eqIntS.f kj21 t278 t263).bind fun t297 => (if t297 = true then (laws_FnExactBackPath.j1 kj21 l2 t263 t266 t278 (t281 != t266) a0_0 a0_1 l0_2 a1_0 a1_1) else (laws_FnExactBackPath.j1 kj21 l2 t263 t266 t278 true a0_0 a0_1 l0_2 a1_0 a1_1)))) = some r := H
   have A61 := Aside0.mk A610
   clear A610
   have HC62 := Aside0.mk H
   clear H
   try go_wp2
   have n0_ := Aside0.mk (Kd.R_drew HO_8.out)
   have n1_ := Aside0.mk (Kd.R_drew HO_11.out)
   have n2_ := Aside0.mk (Kd.R_drew HO_12.out)
   have n3_ := Aside0.mk (Kd.R_drew HO_273002.out)
   have n4_ := Aside0.mk (blk_drew BK250.out)
   have n5_ := Aside0.mk (blk_drew BK251.out)
   have n6_ := Aside0.mk (blk_drew BK272.out)
   have n7_ := Aside0.mk (below_drew1 HB.out)
   clear HO_8
   clear HO_11
   clear HO_12
   clear HO_273002
   clear BK250
   clear BK251
   clear BK272
   clear HB
   have HO_8 := n0_
   have HO_11 := n1_
   have HO_12 := n2_
   have HO_273002 := n3_
   have BK250 := n4_
   have BK251 := n5_
   have BK272 := n6_
   have HB := n7_
   clear n0_ n1_ n2_ n3_ n4_ n5_ n6_ n7_
   refine start_ (n := 5) (S := fun w' => w'.cell? ⟨gb272, 0, none⟩ = some (.int .i64 t267) ∧ w'.cell? ⟨gb272, 1, none⟩ = some (.int .i64 t268) ∧ w'.cell? ⟨gb272, 2, none⟩ = some (.slice Ao41 t269.length co41) ∧ w'.cell? ⟨gb250, 0, none⟩ = some (.int .i64 a0_0) ∧ w'.cell? ⟨gb250, 1, none⟩ = some (.int .i64 a0_1) ∧ w'.cell? ⟨gb250, 2, none⟩ = some (.slice A0_2 l0_2.length c0_2)) (ds := []) #[false, false, false, false, false] (by kernel_rfl) rfl rfl ⟨(blk_cell BK272.out 0).trans rfl, (blk_cell BK272.out 1).trans rfl, (blk_cell BK272.out 2).trans rfl, (blk_cell BK250.out 0).trans rfl, (blk_cell BK250.out 1).trans rfl, (blk_cell BK250.out 2).trans rfl⟩ (fun hHeld => ?_)
   generalize wc.drew = w63 at HO_8 HO_11 HO_12 HO_273002 BK250 BK251 BK272 HB hHeld ⊢
   refine take_ (i := 0) (N := some 58) (v := ?_) (a' := ?_) #[true, false, false, false, false] rfl rfl (by kernel_rfl) (fun _ _ _ h => h) (Or.inl ⟨by rfl, ?_⟩) hHeld ?_ ?_
   rotate_left
   ·rintro w' ⟨s0, s1, s2, s3, s4, s5⟩
    go_simp
    with_reducible rfl
   rotate_left
   ·simp only [Act.put, List.setIfInBounds_toArray, List.set_cons_zero, List.set_cons_succ, i64_w, i32_w]
    rfl
   refine take_ (i := 1) (N := some 59) (v := ?_) (a' := ?_) #[true, true, false, false, false] rfl rfl (by kernel_rfl) (fun _ _ _ h => h) (Or.inl ⟨by rfl, ?_⟩) hHeld ?_ ?_
   rotate_left
   ·rintro w' ⟨s0, s1, s2, s3, s4, s5⟩
    go_simp
    with_reducible rfl
   rotate_left
   ·simp only [Act.put, List.setIfInBounds_toArray, List.set_cons_zero, List.set_cons_succ, i64_w, i32_w]
    rfl
   refine one_ (i := 2) (N := some 60) #[true, true, true, false, false] rfl rfl (by kernel_rfl) (by decide) (fun K hK => ?_)
   refine goes_ Try.func17 (by kernel_rfl) rfl #[.agg #[.int .i64 a0_0, .int .i64 a0_1, .slice A0_2 l0_2.length c0_2]] (by rfl) rfl rfl zj3 ?_
   with_reducible refine (laws_toBoard.calls kj21 a0_0 a0_1 _ _ l0_2 t283 t284 t285 _ ?side1 ?side2 A54.out).mono ?_
   (case side1 => exact zj13)
   (case side2 => exact HC0_2.out)
   rintro e w64 ⟨v286, rfl, ho0, hb⟩
   refine ⟨_, rfl, ?_⟩
   have n0_ := Aside0.mk (Kd.R_elder' zj10 (Kd.R_base ho0) hb)
   have n1_ := Aside0.mk (Kd.R_elder' zj12 (Kd.R_base ho0) hb)
   have n2_ := Aside0.mk (Kd.R_elder' zj9 (Kd.R_base ho0) hb)
   have n3_ := Aside0.mk (Kd.R_elder' zj8 (Kd.R_base ho0) hb)
   have n4_ := Aside0.mk (Kd.R_lower (Kd.R_new' (Kd.R_new' (Kd.R_new' (Kd.R_new' ho0 (Kd.R_lt zj10)) (Kd.R_lt zj12)) (Kd.R_lt zj9)) (Kd.R_lt zj8)) (below_size zj1))
   have n5_ := Aside0.mk (blk_below (g := gb250) (o := .cells #[.int .i64 a0_0, .int .i64 a0_1, .slice A0_2 l0_2.length c0_2] 24 (0, 0)) zj2 hb)
   have n6_ := Aside0.mk (blk_below (g := gb251) (o := .cells #[.int .i64 a1_0, .int .i64 a1_1] 26 (0, 0)) zj4 hb)
   have n7_ := Aside0.mk (blk_below (g := gb272) (o := .cells #[.int .i64 t267, .int .i64 t268, .slice Ao41 t269.length co41] 30 (0, 0)) zj7 hb)
   have n8_ := Aside0.mk (below_step zj1 hb)
   clear HO_8
   clear HO_11
   clear HO_12
   clear HO_273002
   clear BK250
   clear BK251
   clear BK272
   clear HB
   have HO_8 := n0_
   have HO_11 := n1_
   have HO_12 := n2_
   have HO_273002 := n3_
   have HO287 := n4_
   have BK250 := n5_
   have BK251 := n6_
   have BK272 := n7_
   have HB := n8_
   clear n0_ n1_ n2_ n3_ n4_ n5_ n6_ n7_ n8_
   (try clear hb)
   (try clear hb2)
   (try clear hk)
   (try clear hi)
   (try clear ho0)
   (try clear hna_)
   (try clear hnb_)
   obtain ⟨Ao65, co65, eo65⟩ := Kd.R_slice HO287.out
   (first | subst eo65 | (injection eo65 with f1_ f2_ f3_; have f4_ := f1_.symm; have f5_ := f3_.symm; clear f1_ f2_ f3_; subst f4_; subst f5_))
   refine hK.out _ _ ⟨(blk_cell BK272.out 0).trans rfl, (blk_cell BK272.out 1).trans rfl, (blk_cell BK272.out 2).trans rfl, (blk_cell BK250.out 0).trans rfl, (blk_cell BK250.out 1).trans rfl, (blk_cell BK250.out 2).trans rfl⟩ (fun hHeld => ?_)
   clear hK K
   refine norm_ (a' := ?_) ?_ ?_
   rotate_left
   ·show Act.put _ (some 60) _ = _
    simp only [Act.put, List.setIfInBounds_toArray, List.set_cons_zero, List.set_cons_succ, i64_w, i32_w]
    rfl
   refine one_ (i := 3) (N := some 61) #[true, true, true, true, false] rfl rfl (by kernel_rfl) (by decide) (fun K hK => ?_)
   refine goes_ Try.func22 (by kernel_rfl) rfl #[.agg #[.int .i64 t267, .int .i64 t268, .slice Ao41 t269.length co41], .agg #[.int .i64 t283, .int .i64 t284, .slice Ao65 t285.length co65]] (by rfl) rfl rfl zj3 ?_
   with_reducible refine (laws_eqBoard.calls kj21 t267 t268 _ _ t269 t283 t284 _ _ t285 true _ ?side1 ?side2 ?side3 ?side4 A55.out).mono ?_
   (case side1 => exact zj29)
   (case side2 => exact (Kd.R_reads' HO_273002.out).2.1)
   (case side3 => exact zj30)
   (case side4 => exact (Kd.R_reads' HO287.out).2.1)
   rintro e w66 ⟨rfl, hb⟩
   refine ⟨_, rfl, ?_⟩
   have n0_ := Aside0.mk (Kd.R_below zj10 hb)
   have n1_ := Aside0.mk (Kd.R_below zj12 hb)
   have n2_ := Aside0.mk (Kd.R_below zj9 hb)
   have n3_ := Aside0.mk (Kd.R_below zj8 hb)
   have n4_ := Aside0.mk (Kd.R_below zj19 hb)
   have n5_ := Aside0.mk (blk_below (g := gb250) (o := .cells #[.int .i64 a0_0, .int .i64 a0_1, .slice A0_2 l0_2.length c0_2] 24 (0, 0)) zj2 hb)
   have n6_ := Aside0.mk (blk_below (g := gb251) (o := .cells #[.int .i64 a1_0, .int .i64 a1_1] 26 (0, 0)) zj4 hb)
   have n7_ := Aside0.mk (blk_below (g := gb272) (o := .cells #[.int .i64 t267, .int .i64 t268, .slice Ao41 t269.length co41] 30 (0, 0)) zj7 hb)
   have n8_ := Aside0.mk (below_step zj1 hb)
   clear HO_8
   clear HO_11
   clear HO_12
   clear HO_273002
   clear HO287
   clear BK250
   clear BK251
   clear BK272
   clear HB
   have HO_8 := n0_
   have HO_11 := n1_
   have HO_12 := n2_
   have HO_273002 := n3_
   have HO287 := n4_
   have BK250 := n5_
   have BK251 := n6_
   have BK272 := n7_
   have HB := n8_
   clear n0_ n1_ n2_ n3_ n4_ n5_ n6_ n7_ n8_
   (try clear hb)
   (try clear hb2)
   (try clear hk)
   (try clear hi)
   (try clear hna_)
   (try clear hnb_)
   refine hK.out _ _ ⟨(blk_cell BK272.out 0).trans rfl, (blk_cell BK272.out 1).trans rfl, (blk_cell BK272.out 2).trans rfl, (blk_cell BK250.out 0).trans rfl, (blk_cell BK250.out 1).trans rfl, (blk_cell BK250.out 2).trans rfl⟩ (fun hHeld => ?_)
   clear hK K
   refine norm_ (a' := ?_) ?_ ?_
   rotate_left
   ·show Act.put _ (some 61) _ = _
    simp only [Act.put, List.setIfInBounds_toArray, List.set_cons_zero, List.set_cons_succ, i64_w, i32_w]
    rfl
   refine pure_ (i := 4) (N := some 62) (v := ?_) (a' := ?_) #[true, true, true, true, true] rfl rfl (by kernel_rfl) (fun _ _ _ h => h) (Or.inl ⟨by rfl, ?_⟩) ?_ ?_
   rotate_left
   ·intro w'
    go_simp
    with_reducible rfl
   rotate_left
   ·simp only [Act.put, List.setIfInBounds_toArray, List.set_cons_zero, List.set_cons_succ, i64_w, i32_w]
    rfl
   refine done_ (by kernel_rfl) ?_
   go_upto_region 20 with (first | ((with_reducible refine gate_callee (f := 19) rfl ?_); refine goesL_ (some 65) rfl rfl Try.func19 (by kernel_rfl) rfl #[.slice A2 l2.length c2] rfl zj3 ?_; (with_reducible refine (laws_toIntS.calls kj21 _ _ l2 t289 _ ?side1 ?side2 A57.out).mono ?_); (case side1 => exact zj21); (case side2 => exact HC2.out); rintro e w67 ⟨v290, rfl, ho0, hb⟩; refine ⟨_, rfl, ?_⟩; have n0_ := Aside0.mk (Kd.R_elder' zj10 (Kd.R_base ho0) hb); have n1_ := Aside0.mk (Kd.R_elder' zj12 (Kd.R_base ho0) hb); have n2_ := Aside0.mk (Kd.R_elder' zj9 (Kd.R_base ho0) hb); have n3_ := Aside0.mk (Kd.R_elder' zj8 (Kd.R_base ho0) hb); have n4_ := Aside0.mk (Kd.R_elder' zj19 (Kd.R_base ho0) hb); have n5_ := Aside0.mk (Kd.R_lower (Kd.R_new' (Kd.R_new' (Kd.R_new' (Kd.R_new' (Kd.R_new' ho0 (Kd.R_lt zj10)) (Kd.R_lt zj12)) (Kd.R_lt zj9)) (Kd.R_lt zj8)) (Kd.R_lt zj19)) (below_size zj1)); have n6_ := Aside0.mk (blk_below (g := gb250) (o := .cells #[.int .i64 a0_0, .int .i64 a0_1, .slice A0_2 l0_2.length c0_2] 24 (0, 0)) zj2 hb); have n7_ := Aside0.mk (blk_below (g := gb251) (o := .cells #[.int .i64 a1_0, .int .i64 a1_1] 26 (0, 0)) zj4 hb); have n8_ := Aside0.mk (blk_below (g := gb272) (o := .cells #[.int .i64 t267, .int .i64 t268, .slice Ao41 t269.length co41] 30 (0, 0)) zj7 hb); have n9_ := Aside0.mk (below_step zj1 hb); clear HO_8; clear HO_11; clear HO_12; clear HO_273002; clear HO287; clear BK250; clear BK251; clear BK272; clear HB; have HO_8 := n0_; have HO_11 := n1_; have HO_12 := n2_; have HO_273002 := n3_; have HO287 := n4_; have HO291 := n5_; have BK250 := n6_; have BK251 := n7_; have BK272 := n8_; have HB := n9_; clear n0_ n1_ n2_ n3_ n4_ n5_ n6_ n7_ n8_ n9_; (try clear hb); (try clear hb2); (try clear hk); (try clear hi); (try clear ho0); (try clear hna_); (try clear hnb_); obtain ⟨Ao68, co68, eo68⟩ := Kd.R_slice HO291.out; subst eo68) | ((with_reducible refine gate_callee (f := 21) rfl ?_); refine goesL_ (some 66) rfl rfl Try.func21 (by kernel_rfl) rfl #[.slice Ao45 t273.length co45, .slice Ao68 t289.length co68] rfl zj3 ?_; (with_reducible refine (laws_eqIntS.calls kj21 _ _ t273 _ _ t289 true _ ?side1 ?side2 ?side3 ?side4 A58.out).mono ?_); (case side1 => exact zj44); (case side2 => exact (Kd.R_reads' HO_11.out).2.1); (case side3 => exact zj46); (case side4 => exact (Kd.R_reads' HO291.out).2.1); rintro e w' ⟨rfl, ⟨nd, rfl⟩⟩; refine ⟨_, rfl, ?_⟩; have hnb69 := NB272_250.out; have hnc69 := NB250_272.out; have hnb70 := NB272_251.out; have hnc70 := NB251_272.out; have hcz71_0 : w67.cell? ⟨gb272, 0, none⟩ = some (.int .i64 t267) := (blk_cell BK272.out 0).trans rfl; have hcz71_1 : w67.cell? ⟨gb272, 1, none⟩ = some (.int .i64 t268) := (blk_cell BK272.out 1).trans rfl; have hcz71_2 : w67.cell? ⟨gb272, 2, none⟩ = some (.slice Ao41 t269.length co41) := (blk_cell BK272.out 2).trans rfl; have hfz71_0 := blk_frozen BK272.out 0; have hfz71_1 := blk_frozen BK272.out 1; have hfz71_2 := blk_frozen BK272.out 2) | ((with_reducible refine gate_callee (f := 23) rfl ?_); refine goesL_ (some 70) rfl rfl Try.func23 (by kernel_rfl) rfl #[.agg #[.int .i64 t267, .int .i64 t268, .slice Ao41 t269.length co41], .int .i64 1] rfl zj3 ?_; (with_reducible refine (laws_markBoard.calls kj21 t267 t268 (fun k_ => some k_ = (.slice Ao41 t269.length co41 : Value).ownBlock) (.slice Ao41 t269.length co41) t269 1 t293 t294 w _ ?side1 ?side2 A60.out).mono ?_); (case side1 => exact zj1); (case side2 => exact Kd.R_tight rfl HO_273002.out); rintro e w72 ⟨rfl, hy0, hb, hkp⟩; refine ⟨_, rfl, ?_⟩; have n0_ := Aside0.mk (Kd.R_mono (ok' := fun k_ => some k_ ≠ (.slice Ao45 t273.length co45 : Value).ownBlock ∧ some k_ ≠ (v279 : Value).ownBlock ∧ some k_ ≠ (.slice Ao41 t269.length co41 : Value).ownBlock ∧ some k_ ≠ (.slice Ao65 t285.length co65 : Value).ownBlock ∧ some k_ ≠ (.slice Ao68 t289.length co68 : Value).ownBlock) (Kd.R_keptB (HO_8.out) hkp (fun k_ hk_ hs_ => (hk_.1.1.2.2) hs_)) (fun k_ hk_ => ⟨hk_.1.1.1.1, hk_.1.1.1.2.1, hk_.1.1.1.2.2, hk_.1.1.2, hk_.1.2⟩)); have n1_ := Aside0.mk (Kd.R_mono (ok' := fun k_ => some k_ ≠ (v264 : Value).ownBlock ∧ some k_ ≠ (v279 : Value).ownBlock ∧ some k_ ≠ (.slice Ao41 t269.length co41 : Value).ownBlock ∧ some k_ ≠ (.slice Ao65 t285.length co65 : Value).ownBlock ∧ some k_ ≠ (.slice Ao68 t289.length co68 : Value).ownBlock) (Kd.R_keptB (HO_11.out) hkp (fun k_ hk_ hs_ => (hk_.1.1.2.2) hs_)) (fun k_ hk_ => ⟨hk_.1.1.1.1, hk_.1.1.1.2.1, hk_.1.1.1.2.2, hk_.1.1.2, hk_.1.2⟩)); have n2_ := Aside0.mk (Kd.R_mono (ok' := fun k_ => some k_ ≠ (v264 : Value).ownBlock ∧ some k_ ≠ (.slice Ao45 t273.length co45 : Value).ownBlock ∧ some k_ ≠ (.slice Ao41 t269.length co41 : Value).ownBlock ∧ some k_ ≠ (.slice Ao65 t285.length co65 : Value).ownBlock ∧ some k_ ≠ (.slice Ao68 t289.length co68 : Value).ownBlock) (Kd.R_keptB (HO_12.out) hkp (fun k_ hk_ hs_ => (hk_.1.1.2.2) hs_)) (fun k_ hk_ => ⟨hk_.1.1.1.1, hk_.1.1.1.2.1, hk_.1.1.1.2.2, hk_.1.1.2, hk_.1.2⟩)); have n3_ := Aside0.mk (Kd.R_reok rfl hy0 (fun k_ e_ => HO_273002.out.1 k_ e_)); have n4_ := Aside0.mk (blk_kept zj2 hkp (fun hs_ => (fun e_ => (Kd.R_ne HO_273002.out BK250.out (by decide)) e_) hs_)); have n5_ := Aside0.mk (blk_kept zj4 hkp (fun hs_ => (fun e_ => (Kd.R_ne HO_273002.out BK251.out (by decide)) e_) hs_)); have n6_ := Aside0.mk (blk_kept zj7 hkp (fun hs_ => (fun e_ => (Kd.R_ne HO_273002.out BK272.out (by decide)) e_) hs_)); have n7_ := Aside0.mk (Kd.R_mono (ok' := fun k_ => some k_ ≠ (v264 : Value).ownBlock ∧ some k_ ≠ (.slice Ao45 t273.length co45 : Value).ownBlock ∧ some k_ ≠ (v279 : Value).ownBlock ∧ some k_ ≠ (.slice Ao41 t269.length co41 : Value).ownBlock ∧ some k_ ≠ (.slice Ao68 t289.length co68 : Value).ownBlock) (Kd.R_keptB (HO287.out) hkp (fun k_ hk_ hs_ => (hk_.1.2) hs_)) (fun k_ hk_ => ⟨hk_.1.1.1.1.1.2, hk_.1.1.1.1.2, hk_.1.1.1.2, hk_.1.1.2, hk_.1.2⟩)); have n8_ := Aside0.mk (Kd.R_mono (ok' := fun k_ => some k_ ≠ (v264 : Value).ownBlock ∧ some k_ ≠ (.slice Ao45 t273.length co45 : Value).ownBlock ∧ some k_ ≠ (v279 : Value).ownBlock ∧ some k_ ≠ (.slice Ao41 t269.length co41 : Value).ownBlock ∧ some k_ ≠ (.slice Ao65 t285.length co65 : Value).ownBlock) (Kd.R_keptB (HO291.out) hkp (fun k_ hk_ hs_ => (hk_.1.2) hs_)) (fun k_ hk_ => ⟨hk_.1.1.1.1.1.2, hk_.1.1.1.1.2, hk_.1.1.1.2, hk_.1.1.2, hk_.1.2⟩)); have n9_ := Aside0.mk (hb); clear HO_8; clear HO_11; clear HO_12; clear HO_273002; clear BK250; clear BK251; clear BK272; clear HO287; clear HO291; clear HB; have HO_8 := n0_; have HO_11 := n1_; have HO_12 := n2_; have HO_273002 := n3_; have BK250 := n4_; have BK251 := n5_; have BK272 := n6_; have HO287 := n7_; have HO291 := n8_; have HB := n9_; clear n0_ n1_ n2_ n3_ n4_ n5_ n6_ n7_ n8_ n9_; (try clear hb); (try clear hkp); (try clear hy0)) | ((with_reducible refine gate_callee (f := 24) rfl ?_); refine goesL_ (some 73) rfl rfl Try.func24 (by kernel_rfl) rfl #[.slice Ao45 t273.length co45, .int .i64 t293] rfl zj3 ?_; (with_reducible refine (laws_markIntS.calls kj21 (fun k_ => some k_ = (.slice Ao45 t273.length co45 : Value).ownBlock) (.slice Ao45 t273.length co45) t273 t293 t295 t296 w _ ?side1 ?side2 A61.out).mono ?_); (case side1 => exact zj1); (case side2 => exact Kd.R_tight rfl HO_11.out); rintro e w73 ⟨rfl, hy0, hb, hkp⟩; refine ⟨_, rfl, ?_⟩; have n0_ := Aside0.mk (Kd.R_mono (ok' := fun k_ => some k_ ≠ (.slice Ao45 t273.length co45 : Value).ownBlock ∧ some k_ ≠ (v279 : Value).ownBlock ∧ some k_ ≠ (.slice Ao41 t269.length co41 : Value).ownBlock ∧ some k_ ≠ (.slice Ao65 t285.length co65 : Value).ownBlock ∧ some k_ ≠ (.slice Ao68 t289.length co68 : Value).ownBlock) (Kd.R_keptB (HO_8.out) hkp (fun k_ hk_ hs_ => (hk_.1) hs_)) (fun k_ hk_ => ⟨hk_.1.1, hk_.1.2.1, hk_.1.2.2.1, hk_.1.2.2.2.1, hk_.1.2.2.2.2⟩)); have n1_ := Aside0.mk (Kd.R_reok rfl hy0 (fun k_ e_ => HO_11.out.1 k_ e_)); have n2_ := Aside0.mk (Kd.R_mono (ok' := fun k_ => some k_ ≠ (v264 : Value).ownBlock ∧ some k_ ≠ (.slice Ao45 t273.length co45 : Value).ownBlock ∧ some k_ ≠ (.slice Ao41 t269.length co41 : Value).ownBlock ∧ some k_ ≠ (.slice Ao65 t285.length co65 : Value).ownBlock ∧ some k_ ≠ (.slice Ao68 t289.length co68 : Value).ownBlock) (Kd.R_keptB (HO_12.out) hkp (fun k_ hk_ hs_ => (hk_.2.1) hs_)) (fun k_ hk_ => ⟨hk_.1.1, hk_.1.2.1, hk_.1.2.2.1, hk_.1.2.2.2.1, hk_.1.2.2.2.2⟩)); have n3_ := Aside0.mk (Kd.R_mono (ok' := fun k_ => some k_ ≠ (v264 : Value).ownBlock ∧ some k_ ≠ (.slice Ao45 t273.length co45 : Value).ownBlock ∧ some k_ ≠ (v279 : Value).ownBlock ∧ some k_ ≠ (.slice Ao65 t285.length co65 : Value).ownBlock ∧ some k_ ≠ (.slice Ao68 t289.length co68 : Value).ownBlock) (Kd.R_keptB (HO_273002.out) hkp (fun k_ hk_ hs_ => (hk_.1.1.2.1) hs_)) (fun k_ hk_ => ⟨hk_.1.1.1.1, hk_.1.1.1.2.1, hk_.1.1.1.2.2, hk_.1.1.2, hk_.1.2⟩)); have n4_ := Aside0.mk (blk_kept zj2 hkp (fun hs_ => (fun e_ => (Kd.R_ne HO_11.out BK250.out (by decide)) e_) hs_)); have n5_ := Aside0.mk (blk_kept zj4 hkp (fun hs_ => (fun e_ => (Kd.R_ne HO_11.out BK251.out (by decide)) e_) hs_)); have n6_ := Aside0.mk (blk_kept zj7 hkp (fun hs_ => (fun e_ => (Kd.R_ne HO_11.out BK272.out (by decide)) e_) hs_)); have n7_ := Aside0.mk (Kd.R_mono (ok' := fun k_ => some k_ ≠ (v264 : Value).ownBlock ∧ some k_ ≠ (.slice Ao45 t273.length co45 : Value).ownBlock ∧ some k_ ≠ (v279 : Value).ownBlock ∧ some k_ ≠ (.slice Ao41 t269.length co41 : Value).ownBlock ∧ some k_ ≠ (.slice Ao68 t289.length co68 : Value).ownBlock) (Kd.R_keptB (HO287.out) hkp (fun k_ hk_ hs_ => (hk_.2.1) hs_)) (fun k_ hk_ => ⟨hk_.1.1, hk_.1.2.1, hk_.1.2.2.1, hk_.1.2.2.2.1, hk_.1.2.2.2.2⟩)); have n8_ := Aside0.mk (Kd.R_mono (ok' := fun k_ => some k_ ≠ (v264 : Value).ownBlock ∧ some k_ ≠ (.slice Ao45 t273.length co45 : Value).ownBlock ∧ some k_ ≠ (v279 : Value).ownBlock ∧ some k_ ≠ (.slice Ao41 t269.length co41 : Value).ownBlock ∧ some k_ ≠ (.slice Ao65 t285.length co65 : Value).ownBlock) (Kd.R_keptB (HO291.out) hkp (fun k_ hk_ hs_ => (hk_.2.1) hs_)) (fun k_ hk_ => ⟨hk_.1.1, hk_.1.2.1, hk_.1.2.2.1, hk_.1.2.2.2.1, hk_.1.2.2.2.2⟩)); have n9_ := Aside0.mk (hb); clear HO_8; clear HO_11; clear HO_12; clear HO_273002; clear BK250; clear BK251; clear BK272; clear HO287; clear HO291; clear HB; have HO_8 := n0_; have HO_11 := n1_; have HO_12 := n2_; have HO_273002 := n3_; have BK250 := n4_; have BK251 := n5_; have BK272 := n6_; have HO287 := n7_; have HO291 := n8_; have HB := n9_; clear n0_ n1_ n2_ n3_ n4_ n5_ n6_ n7_ n8_ n9_; (try clear hb); (try clear hkp); (try clear hy0)))
   (try simp only [Act.put, List.setIfInBounds_toArray, List.set_cons_zero, List.set_cons_succ])
   go_cut [86] (fun v86 wc => ∃ (kq : Nat) (x86_61 : Bool), v86 = .bool x86_61 ∧ Aside0 (laws_FnExactBackPath.j1 kq l2 t263 t266 t278 x86_61 a0_0 a0_1 l0_2 a1_0 a1_1 = some r) ∧ Aside0 (kq ≤ kj21) ∧ Aside0 (Kd.R (Kd.int .i64) 3 wc w.heap.size (fun k_ => some k_ ≠ (v279 : Value).ownBlock ∧ some k_ ≠ ((.slice Ao41 t269.length co41) : Value).ownBlock) v264 t263) ∧ Aside0 (Kd.R (Kd.int .i64) 3 wc w.heap.size (fun k_ => some k_ ≠ (v264 : Value).ownBlock ∧ some k_ ≠ ((.slice Ao41 t269.length co41) : Value).ownBlock) v279 t278) ∧ Aside0 (Kd.R (Kd.int .i64) 3 wc w.heap.size (fun k_ => some k_ ≠ (v264 : Value).ownBlock ∧ some k_ ≠ (v279 : Value).ownBlock) (.slice Ao41 t269.length co41) t294) ∧ Aside0 (wc.heap[gb250]? = some (.cells #[.int .i64 a0_0, .int .i64 a0_1, (.slice A0_2 l0_2.length c0_2)] 24 (0, 0))) ∧ Aside0 (wc.heap[gb251]? = some (.cells #[.int .i64 a1_0, .int .i64 a1_1] 26 (0, 0))) ∧ Aside0 (wc.heap[gb272]? = some (.cells #[.int .i64 t267, .int .i64 t268, (.slice Ao41 t269.length co41)] 30 (0, 0))) ∧ Aside0 (Below w.heap.size w wc))
   case first =>
    have H := HC62.out
    clear HC62
    by_cases c74 : t295 < 0
    ·rw [if_pos c74] at H
     have c74b0 : decide (t295 < 0) = true := decide_eq_true c74
     clear c74
     (first | rw [c74b0] | (simp only [i64_w, i32_w]; rw [c74b0]) | skip)
     have H' := Aside0.mk H
     clear H
     go_wp2
     go_meet
     case rel => exact ⟨_, (true), zj35, H', ⟨by have := HJ21.out; first | omega | exact Nat.le_refl _⟩, ⟨zj33⟩, ⟨zj34⟩, ⟨zj32⟩, ⟨zj2⟩, ⟨zj4⟩, ⟨zj7⟩, ⟨zj1⟩⟩
    rw [if_neg c74] at H
    have c74b0 : decide (t295 < 0) = false := decide_eq_false c74
    clear c74
    (first | rw [c74b0] | (simp only [i64_w, i32_w]; rw [c74b0]) | skip)
    replace H := Option.bind_eq_some_iff.mp H
    obtain ⟨t297, A750, H⟩ := H
    replace H : (if t297 = true then (laws_FnExactBackPath.j1 kj21 l2 t263 t266 t278 (t281 != t266) a0_0 a0_1 l0_2 a1_0 a1_1) else (laws_FnExactBackPath.j1 kj21 l2 t263 t266 t278 true a0_0 a0_1 l0_2 a1_0 a1_1)) = some r := H
    have A75 := Aside0.mk A750
    clear A750
    by_cases c76 : t297 = true
    ·subst c76
     have H1 : (laws_FnExactBackPath.j1 kj21 l2 t263 t266 t278 (t281 != t266) a0_0 a0_1 l0_2 a1_0 a1_1) = some r := by rw [if_pos rfl] at H; exact H
     clear H
     have H := H1
     clear H1
     have H' := Aside0.mk H
     clear H
     obtain ⟨Ao77, co77, eo77⟩ := Kd.R_slice HO_12.out
     subst eo77
     obtain ⟨Ao78, co78, eo78⟩ := Kd.R_slice HO_8.out
     subst eo78
     go_wp2_with (first | (go_at_call 21; (with_reducible refine (laws_eqIntS.calls kj21 _ _ t278 _ _ t263 true _ ?side1 ?side2 ?side3 ?side4 A75.out).mono ?_); (case side1 => exact zj14); (case side2 => exact (Kd.R_reads' HO_12.out).2.1); (case side3 => exact zj22); (case side4 => exact (Kd.R_reads' HO_8.out).2.1); rintro e w' ⟨rfl, ⟨nd, rfl⟩⟩))
     go_meet
     case rel => exact ⟨_, ((t281 != t266)), zj35, H', ⟨by have := HJ21.out; first | omega | exact Nat.le_refl _⟩, ⟨zj33⟩, ⟨zj34⟩, ⟨zj32⟩, ⟨zj2⟩, ⟨zj4⟩, ⟨zj7⟩, ⟨zj1⟩⟩
    replace c76 := Bool.eq_false_iff.mpr c76
    subst c76
    have H1 : (laws_FnExactBackPath.j1 kj21 l2 t263 t266 t278 true a0_0 a0_1 l0_2 a1_0 a1_1) = some r := by rw [if_neg (show ¬ (false = true) by decide)] at H; exact H
    clear H
    have H := H1
    clear H1
    have H' := Aside0.mk H
    clear H
    obtain ⟨Ao79, co79, eo79⟩ := Kd.R_slice HO_12.out
    subst eo79
    obtain ⟨Ao80, co80, eo80⟩ := Kd.R_slice HO_8.out
    subst eo80
    go_wp2_with (first | (go_at_call 21; (with_reducible refine (laws_eqIntS.calls kj21 _ _ t278 _ _ t263 false _ ?side1 ?side2 ?side3 ?side4 A75.out).mono ?_); (case side1 => exact zj14); (case side2 => exact (Kd.R_reads' HO_12.out).2.1); (case side3 => exact zj22); (case side4 => exact (Kd.R_reads' HO_8.out).2.1); rintro e w' ⟨rfl, ⟨nd, rfl⟩⟩))
    go_meet
    case rel => exact ⟨_, (true), zj35, H', ⟨by have := HJ21.out; first | omega | exact Nat.le_refl _⟩, ⟨zj33⟩, ⟨zj34⟩, ⟨zj32⟩, ⟨zj2⟩, ⟨zj4⟩, ⟨zj7⟩, ⟨zj1⟩⟩
   case rest =>
    clear HC62
    try clear c1; try clear c2; try clear p2; try clear c3; try clear c4; try clear c4b0; try clear c4b1; try clear c5; try clear c6; try clear c7; try clear c8; try clear c8b0; try clear c11; try clear c15; try clear c16; try clear c17; try clear c18; try clear c19; try clear c20; try clear c21; try clear c22; try clear c23; try clear c24; try clear c25; try clear c38; try clear c39; try clear c48; try clear c53; try clear c56; try clear c59; try clear c69; try clear c70; try clear c74; try clear c74b0; try clear c76; try clear hcz12_0; try clear hcz12_1; try clear hcz12_2; try clear hcz26_0; try clear hcz26_1
    try clear hcz26_2; try clear hcz35_0; try clear hcz35_1; try clear hcz35_2; try clear hcz40_0; try clear hcz40_1; try clear hcz40_2; try clear hcz71_0; try clear hcz71_1; try clear hcz71_2; try clear hfz12_0; try clear hfz12_1; try clear hfz12_2; try clear hfz26_0; try clear hfz26_1; try clear hfz26_2; try clear hfz35_0; try clear hfz35_1; try clear hfz35_2; try clear hfz40_0; try clear hfz40_1; try clear hfz40_2; try clear hfz71_0; try clear hfz71_1; try clear hfz71_2; try clear p2
    obtain ⟨kq, x86_61, rfl, HA, HJ61, HO_8, HO_12, HO_273002, BK250, BK251, BK272, HB⟩ := hcut
    have hl273002_61 := (Kd.R_reads' HO_273002.out).1
    rw [hl273002_61] at HO_273002
    (try simp only [hl273002_61])
    (try simp only [hl273002_61] at BK250)
    (try simp only [hl273002_61] at BK251)
    (try simp only [hl273002_61] at BK272)
    (try simp only [hl273002_61] at HO_8)
    (try simp only [hl273002_61] at HO_12)
    cases kq with
    | zero => exact absurd HA.out (by simp [laws_FnExactBackPath.j1])
    | succ kj61 =>
     have H := HA.out
     clear HA
     simp only [laws_FnExactBackPath.j1] at H
     by_cases c81 : x86_61 = true
     ·subst c81
      have H1 : (some false) = some r := by rw [if_pos rfl] at H; exact H
      clear H
      have H := H1
      clear H1
      obtain rfl := Option.some.inj H
      go_wp2
      go_ret
      exact ⟨zj17, zj1⟩
     replace c81 := Bool.eq_false_iff.mpr c81
     subst c81
     have H1 : ((laws_markIntS.f kj61 t278 1).bind fun bt298 => ((laws_heldIntS.f kj61 bt298.2 1).bind fun t300 => (if t300 < 0 then (some false) else (if t300 = bt298.1 then ((laws_toBoard.f kj61 a0_0 a0_1 l0_2).bind fun bt301 => ((laws_toLeaper.f a1_0 a1_1).bind fun bt306 => ((laws_toIntS.f kj61 l2).bind fun t308 => ((impl_BackPath.f kj61 bt301.1 bt301.2.1 bt301.2.2 bt306.1 bt306.2 t308).bind fun bt311 => ((laws_eqIntS.f kj61 bt311.1 t263).bind fun t315 => (if t315 = true then (laws_FnExactBackPath.j2 kj61 bt298.2 bt298.1 (bt311.2 != t266)) else (laws_FnExactBackPath.j2 kj61 bt298.2 bt298.1 true))))))) else (some false))))) = some r := by rw [if_neg (show ¬ (false = true) by decide)] at H; exact H
     clear H
     have H := H1
     clear H1
     replace H := Option.bind_eq_some_iff.mp H
     obtain ⟨⟨t298, t299⟩, A820, H⟩ := H
     replace H : ((laws_heldIntS.f kj61 t299 1).bind fun t300 => (if t300 < 0 then (some false) else (if t300 = t298 then ((laws_toBoard.f kj61 a0_0 a0_1 l0_2).bind fun bt301 => ((laws_toLeaper.f a1_0 a1_1).bind fun bt306 => ((laws_toIntS.f kj61 l2).bind fun t308 => ((impl_BackPath.f kj61 bt301.1 bt301.2.1 bt301.2.2 bt306.1 bt306.2 t308).bind fun bt311 => ((laws_eqIntS.f kj61 bt311.1 t263).bind fun t315 => (if t315 = true then (laws_FnExactBackPath.j2 kj61 t299 t298 (bt311.2 != t266)) else (laws_FnExactBackPath.j2 kj61 t299 t298 true))))))) else (some false)))) = some r := H
     have A82 := Aside0.mk A820
     clear A820
     replace H := Option.bind_eq_some_iff.mp H
     obtain ⟨t300, A830, H⟩ := H
     replace H : (if t300 < 0 then (some false) else (if t300 = t298 then ((laws_toBoard.f kj61 a0_0 a0_1 l0_2).bind fun bt301 => ((laws_toLeaper.f a1_0 a1_1).bind fun bt306 => ((laws_toIntS.f kj61 l2).bind fun t308 => ((impl_BackPath.f kj61 bt301.1 bt301.2.1 bt301.2.2 bt306.1 bt306.2 t308).bind fun bt311 => ((laws_eqIntS.f kj61 bt311.1 t263).bind fun t315 => (if t315 = true then (laws_FnExactBackPath.j2 kj61 t299 t298 (bt311.2 != t266)) else (laws_FnExactBackPath.j2 kj61 t299 t298 true))))))) else (some false))) = some r := H
     have A83 := Aside0.mk A830
     clear A830
     by_cases c84 : t300 < 0
     ·rw [if_pos c84] at H
      have c84b0 : decide (t300 < 0) = true := decide_eq_true c84
      clear c84
      obtain rfl := Option.some.inj H
      obtain ⟨Ao85, co85, eo85⟩ := Kd.R_slice HO_12.out
      subst eo85
      go_wp2_with (first | ((with_reducible refine gate_callee (f := 24) rfl ?_); refine goesL_ (some 89) rfl rfl Try.func24 (by kernel_rfl) rfl #[.slice Ao85 t278.length co85, .int .i64 1] rfl zj3 ?_; (with_reducible refine (laws_markIntS.calls kj61 (fun k_ => some k_ = (.slice Ao85 t278.length co85 : Value).ownBlock) (.slice Ao85 t278.length co85) t278 1 t298 t299 w _ ?side1 ?side2 A82.out).mono ?_); (case side1 => exact zj1); (case side2 => exact Kd.R_tight rfl HO_12.out); rintro e w86 ⟨rfl, hy0, hb, hkp⟩; refine ⟨_, rfl, ?_⟩; have n0_ := Aside0.mk (Kd.R_mono (ok' := fun k_ => some k_ ≠ (.slice Ao85 t278.length co85 : Value).ownBlock ∧ some k_ ≠ (.slice Ao41 t294.length co41 : Value).ownBlock) (Kd.R_keptB (HO_8.out) hkp (fun k_ hk_ hs_ => (hk_.1) hs_)) (fun k_ hk_ => ⟨hk_.1.1, hk_.1.2⟩)); have n1_ := Aside0.mk (Kd.R_reok rfl hy0 (fun k_ e_ => HO_12.out.1 k_ e_)); have n2_ := Aside0.mk (Kd.R_mono (ok' := fun k_ => some k_ ≠ (v264 : Value).ownBlock ∧ some k_ ≠ (.slice Ao85 t278.length co85 : Value).ownBlock) (Kd.R_keptB (HO_273002.out) hkp (fun k_ hk_ hs_ => (hk_.2) hs_)) (fun k_ hk_ => ⟨hk_.1.1, hk_.1.2⟩)); have n3_ := Aside0.mk (blk_kept zj2 hkp (fun hs_ => (fun e_ => (Kd.R_ne HO_12.out BK250.out (by decide)) e_) hs_)); have n4_ := Aside0.mk (blk_kept zj4 hkp (fun hs_ => (fun e_ => (Kd.R_ne HO_12.out BK251.out (by decide)) e_) hs_)); have n5_ := Aside0.mk (blk_kept zj7 hkp (fun hs_ => (fun e_ => (Kd.R_ne HO_12.out BK272.out (by decide)) e_) hs_)); have n6_ := Aside0.mk (hb); clear HO_8; clear HO_12; clear HO_273002; clear BK250; clear BK251; clear BK272; clear HB; have HO_8 := n0_; have HO_12 := n1_; have HO_273002 := n2_; have BK250 := n3_; have BK251 := n4_; have BK272 := n5_; have HB := n6_; clear n0_ n1_ n2_ n3_ n4_ n5_ n6_; (try clear hb); (try clear hkp); (try clear hy0)) | ((with_reducible refine gate_callee (f := 25) rfl ?_); refine goesL_ (some 92) rfl rfl Try.func25 (by kernel_rfl) rfl #[.slice Ao85 t299.length co85, .int .i64 1] rfl zj23 ?_; (with_reducible refine (laws_heldIntS.calls kj61 _ _ t299 1 t300 _ ?side1 ?side2 A83.out).mono ?_); (case side1 => exact zj14); (case side2 => exact zj37); rintro e w' ⟨rfl, ⟨nd, rfl⟩⟩; refine ⟨_, rfl, ?_⟩))
      go_ret
      exact ⟨zj17, zj1⟩
     rw [if_neg c84] at H
     have c84b0 : decide (t300 < 0) = false := decide_eq_false c84
     clear c84
     by_cases c87 : t300 = t298
     rotate_left
     ·rw [if_neg c87] at H
      have c87b0 : (t300 == t298) = false := beq_eq_false_iff_ne.mpr c87
      have c87b1 : (t300 != t298) = true := bne_iff_ne.mpr c87
      obtain rfl := Option.some.inj H
      obtain ⟨Ao112, co112, eo112⟩ := Kd.R_slice HO_12.out
      subst eo112
      go_wp2_with (first | ((with_reducible refine gate_callee (f := 24) rfl ?_); refine goesL_ (some 89) rfl rfl Try.func24 (by kernel_rfl) rfl #[.slice Ao112 t278.length co112, .int .i64 1] rfl zj3 ?_; (with_reducible refine (laws_markIntS.calls kj61 (fun k_ => some k_ = (.slice Ao112 t278.length co112 : Value).ownBlock) (.slice Ao112 t278.length co112) t278 1 t298 t299 w _ ?side1 ?side2 A82.out).mono ?_); (case side1 => exact zj1); (case side2 => exact Kd.R_tight rfl HO_12.out); rintro e w113 ⟨rfl, hy0, hb, hkp⟩; refine ⟨_, rfl, ?_⟩; have n0_ := Aside0.mk (Kd.R_mono (ok' := fun k_ => some k_ ≠ (.slice Ao112 t278.length co112 : Value).ownBlock ∧ some k_ ≠ (.slice Ao41 t294.length co41 : Value).ownBlock) (Kd.R_keptB (HO_8.out) hkp (fun k_ hk_ hs_ => (hk_.1) hs_)) (fun k_ hk_ => ⟨hk_.1.1, hk_.1.2⟩)); have n1_ := Aside0.mk (Kd.R_reok rfl hy0 (fun k_ e_ => HO_12.out.1 k_ e_)); have n2_ := Aside0.mk (Kd.R_mono (ok' := fun k_ => some k_ ≠ (v264 : Value).ownBlock ∧ some k_ ≠ (.slice Ao112 t278.length co112 : Value).ownBlock) (Kd.R_keptB (HO_273002.out) hkp (fun k_ hk_ hs_ => (hk_.2) hs_)) (fun k_ hk_ => ⟨hk_.1.1, hk_.1.2⟩)); have n3_ := Aside0.mk (blk_kept zj2 hkp (fun hs_ => (fun e_ => (Kd.R_ne HO_12.out BK250.out (by decide)) e_) hs_)); have n4_ := Aside0.mk (blk_kept zj4 hkp (fun hs_ => (fun e_ => (Kd.R_ne HO_12.out BK251.out (by decide)) e_) hs_)); have n5_ := Aside0.mk (blk_kept zj7 hkp (fun hs_ => (fun e_ => (Kd.R_ne HO_12.out BK272.out (by decide)) e_) hs_)); have n6_ := Aside0.mk (hb); clear HO_8; clear HO_12; clear HO_273002; clear BK250; clear BK251; clear BK272; clear HB; have HO_8 := n0_; have HO_12 := n1_; have HO_273002 := n2_; have BK250 := n3_; have BK251 := n4_; have BK272 := n5_; have HB := n6_; clear n0_ n1_ n2_ n3_ n4_ n5_ n6_; (try clear hb); (try clear hkp); (try clear hy0)) | ((with_reducible refine gate_callee (f := 25) rfl ?_); refine goesL_ (some 92) rfl rfl Try.func25 (by kernel_rfl) rfl #[.slice Ao112 t299.length co112, .int .i64 1] rfl zj23 ?_; (with_reducible refine (laws_heldIntS.calls kj61 _ _ t299 1 t300 _ ?side1 ?side2 A83.out).mono ?_); (case side1 => exact zj14); (case side2 => exact zj37); rintro e w' ⟨rfl, ⟨nd, rfl⟩⟩; refine ⟨_, rfl, ?_⟩))
      go_ret
      exact ⟨zj17, zj1⟩
     rw [if_pos c87] at H
     have c87b0 : (t300 == t298) = true := beq_iff_eq.mpr c87
     have c87b1 : (t300 != t298) = false := bne_eq_false_iff_eq.mpr c87
     clear c87
     replace H := Option.bind_eq_some_iff.mp H
     obtain ⟨⟨t301, t302, t303⟩, A880, H⟩ := H
     replace H : ((laws_toLeaper.f a1_0 a1_1).bind fun bt306 => ((laws_toIntS.f kj61 l2).bind fun t308 => ((impl_BackPath.f kj61 t301 t302 t303 bt306.1 bt306.2 t308).bind fun bt311 => ((laws_eqIntS.f kj61 bt311.1 t263).bind fun t315 => (if t315 = true then (laws_FnExactBackPath.j2 kj61 t299 t298 (bt311.2 != t266)) else (laws_FnExactBackPath.j2 kj61 t299 t298 true)))))) = some r := H
     have A88 := Aside0.mk A880
     clear A880
     replace H := Option.bind_eq_some_iff.mp H
     obtain ⟨⟨t306, t307⟩, A890, H⟩ := H
     replace H : ((laws_toIntS.f kj61 l2).bind fun t308 => ((impl_BackPath.f kj61 t301 t302 t303 t306 t307 t308).bind fun bt311 => ((laws_eqIntS.f kj61 bt311.1 t263).bind fun t315 => (if t315 = true then (laws_FnExactBackPath.j2 kj61 t299 t298 (bt311.2 != t266)) else (laws_FnExactBackPath.j2 kj61 t299 t298 true))))) = some r := H
     have A89 := Aside0.mk A890
     clear A890
     replace H := Option.bind_eq_some_iff.mp H
     obtain ⟨t308, A900, H⟩ := H
     replace H : ((impl_BackPath.f kj61 t301 t302 t303 t306 t307 t308).bind fun bt311 => ((laws_eqIntS.f kj61 bt311.1 t263).bind fun t315 => (if t315 = true then (laws_FnExactBackPath.j2 kj61 t299 t298 (bt311.2 != t266)) else (laws_FnExactBackPath.j2 kj61 t299 t298 true)))) = some r := H
     have A90 := Aside0.mk A900
     clear A900
     replace H := Option.bind_eq_some_iff.mp H
     obtain ⟨⟨t311, t314⟩, A910, H⟩ := H
     replace H : ((laws_eqIntS.f kj61 t311 t263).bind fun t315 => (if t315 = true then (laws_FnExactBackPath.j2 kj61 t299 t298 (t314 != t266)) else (laws_FnExactBackPath.j2 kj61 t299 t298 true))) = some r := H
     have A91 := Aside0.mk A910
     clear A910
     have HC92 := Aside0.mk H
     clear H
     obtain ⟨Ao93, co93, eo93⟩ := Kd.R_slice HO_12.out
     subst eo93
     try go_wp2_with (first | ((with_reducible refine gate_callee (f := 24) rfl ?_); refine goesL_ (some 89) rfl rfl Try.func24 (by kernel_rfl) rfl #[.slice Ao93 t278.length co93, .int .i64 1] rfl zj3 ?_; (with_reducible refine (laws_markIntS.calls kj61 (fun k_ => some k_ = (.slice Ao93 t278.length co93 : Value).ownBlock) (.slice Ao93 t278.length co93) t278 1 t298 t299 w _ ?side1 ?side2 A82.out).mono ?_); (case side1 => exact zj1); (case side2 => exact Kd.R_tight rfl HO_12.out); rintro e w94 ⟨rfl, hy0, hb, hkp⟩; refine ⟨_, rfl, ?_⟩; have n0_ := Aside0.mk (Kd.R_mono (ok' := fun k_ => some k_ ≠ (.slice Ao93 t278.length co93 : Value).ownBlock ∧ some k_ ≠ (.slice Ao41 t294.length co41 : Value).ownBlock) (Kd.R_keptB (HO_8.out) hkp (fun k_ hk_ hs_ => (hk_.1) hs_)) (fun k_ hk_ => ⟨hk_.1.1, hk_.1.2⟩)); have n1_ := Aside0.mk (Kd.R_reok rfl hy0 (fun k_ e_ => HO_12.out.1 k_ e_)); have n2_ := Aside0.mk (Kd.R_mono (ok' := fun k_ => some k_ ≠ (v264 : Value).ownBlock ∧ some k_ ≠ (.slice Ao93 t278.length co93 : Value).ownBlock) (Kd.R_keptB (HO_273002.out) hkp (fun k_ hk_ hs_ => (hk_.2) hs_)) (fun k_ hk_ => ⟨hk_.1.1, hk_.1.2⟩)); have n3_ := Aside0.mk (blk_kept zj2 hkp (fun hs_ => (fun e_ => (Kd.R_ne HO_12.out BK250.out (by decide)) e_) hs_)); have n4_ := Aside0.mk (blk_kept zj4 hkp (fun hs_ => (fun e_ => (Kd.R_ne HO_12.out BK251.out (by decide)) e_) hs_)); have n5_ := Aside0.mk (blk_kept zj7 hkp (fun hs_ => (fun e_ => (Kd.R_ne HO_12.out BK272.out (by decide)) e_) hs_)); have n6_ := Aside0.mk (hb); clear HO_8; clear HO_12; clear HO_273002; clear BK250; clear BK251; clear BK272; clear HB; have HO_8 := n0_; have HO_12 := n1_; have HO_273002 := n2_; have BK250 := n3_; have BK251 := n4_; have BK272 := n5_; have HB := n6_; clear n0_ n1_ n2_ n3_ n4_ n5_ n6_; (try clear hb); (try clear hkp); (try clear hy0)) | ((with_reducible refine gate_callee (f := 25) rfl ?_); refine goesL_ (some 92) rfl rfl Try.func25 (by kernel_rfl) rfl #[.slice Ao93 t299.length co93, .int .i64 1] rfl zj23 ?_; (with_reducible refine (laws_heldIntS.calls kj61 _ _ t299 1 t300 _ ?side1 ?side2 A83.out).mono ?_); (case side1 => exact zj14); (case side2 => exact zj37); rintro e w' ⟨rfl, ⟨nd, rfl⟩⟩; refine ⟨_, rfl, ?_⟩))
     (try (rw [drewN_self w94]; generalize hq_ : World.drewN w94 _ = w94; have n0_ : Aside0 (Kd.R (Kd.int .i64) 3 w94 w.heap.size (fun k_ => (some k_ ≠ (v264 : Value).ownBlock ∧ some k_ ≠ (.slice Ao41 t294.length co41 : Value).ownBlock)) (.slice Ao93 t278.length co93) t299) := ⟨by rw [← hq_]; exact zj9⟩; have n1_ : Aside0 (Kd.R (Kd.int .i64) 3 w94 w.heap.size (fun k_ => (some k_ ≠ (v264 : Value).ownBlock ∧ some k_ ≠ (.slice Ao93 t278.length co93 : Value).ownBlock)) (.slice Ao41 t294.length co41) t294) := ⟨by rw [← hq_]; exact zj8⟩; have n2_ : Aside0 (Kd.R (Kd.int .i64) 3 w94 w.heap.size (fun k_ => (some k_ ≠ (.slice Ao93 t278.length co93 : Value).ownBlock ∧ some k_ ≠ (.slice Ao41 t294.length co41 : Value).ownBlock)) v264 t263) := ⟨by rw [← hq_]; exact zj10⟩; have n3_ : Aside0 (w94.heap[gb250]? = some (.cells #[.int .i64 a0_0, .int .i64 a0_1, .slice A0_2 l0_2.length c0_2] 24 (0, 0))) := ⟨by rw [← hq_]; exact zj2⟩; have n4_ : Aside0 (w94.heap[gb251]? = some (.cells #[.int .i64 a1_0, .int .i64 a1_1] 26 (0, 0))) := ⟨by rw [← hq_]; exact zj4⟩; have n5_ : Aside0 (w94.heap[gb272]? = some (.cells #[.int .i64 t267, .int .i64 t268, .slice Ao41 t294.length co41] 30 (0, 0))) := ⟨by rw [← hq_]; exact zj7⟩; have n6_ : Aside0 (Below w.heap.size w w94) := ⟨by rw [← hq_]; exact zj1⟩; clear HO_12 HO_273002 HO_8 BK250 BK251 BK272 HB hq_; have HO_12 := n0_; have HO_273002 := n1_; have HO_8 := n2_; have BK250 := n3_; have BK251 := n4_; have BK272 := n5_; have HB := n6_; clear n0_ n1_ n2_ n3_ n4_ n5_ n6_))
     have n0_ := Aside0.mk (Kd.R_drew HO_8.out)
     have n1_ := Aside0.mk (Kd.R_drew HO_12.out)
     have n2_ := Aside0.mk (Kd.R_drew HO_273002.out)
     have n3_ := Aside0.mk (blk_drew BK250.out)
     have n4_ := Aside0.mk (blk_drew BK251.out)
     have n5_ := Aside0.mk (blk_drew BK272.out)
     have n6_ := Aside0.mk (below_drew1 HB.out)
     clear HO_8
     clear HO_12
     clear HO_273002
     clear BK250
     clear BK251
     clear BK272
     clear HB
     have HO_8 := n0_
     have HO_12 := n1_
     have HO_273002 := n2_
     have BK250 := n3_
     have BK251 := n4_
     have BK272 := n5_
     have HB := n6_
     clear n0_ n1_ n2_ n3_ n4_ n5_ n6_
     refine start_ (n := 12) (S := fun w' => w'.cell? ⟨gb250, 0, none⟩ = some (.int .i64 a0_0) ∧ w'.cell? ⟨gb250, 1, none⟩ = some (.int .i64 a0_1) ∧ w'.cell? ⟨gb250, 2, none⟩ = some (.slice A0_2 l0_2.length c0_2) ∧ w'.cell? ⟨gb251, 0, none⟩ = some (.int .i64 a1_0) ∧ w'.cell? ⟨gb251, 1, none⟩ = some (.int .i64 a1_1)) (ds := []) #[false, false, false, false, false, false, false, false, false, false, false, false] (by kernel_rfl) rfl rfl ⟨(blk_cell BK250.out 0).trans rfl, (blk_cell BK250.out 1).trans rfl, (blk_cell BK250.out 2).trans rfl, (blk_cell BK251.out 0).trans rfl, (blk_cell BK251.out 1).trans rfl⟩ (fun hHeld => ?_); refine with_tabW laws_FnExactBackPath.tab30 laws_FnExactBackPath.bits30 (fun HT_ HW_ => ?_)
     generalize w94.drew = w95 at HO_8 HO_12 HO_273002 BK250 BK251 BK272 HB hHeld ⊢
     refine pure_ (i := 4) (N := some 103) (v := ?_) (a' := ?_) #[false, false, false, false, true, false, false, false, false, false, false, false] rfl rfl (any_of HT_.out (by kernel_rfl)) (fun _ _ _ h => h) (Or.inl ⟨by rfl, ?_⟩) ?_ ?_
     rotate_left
     ·intro w'
      go_simp
      with_reducible rfl
     rotate_left
     ·simp only [Act.put, List.setIfInBounds_toArray, List.set_cons_zero, List.set_cons_succ, i64_w, i32_w]
      rfl
     refine take_ (i := 0) (N := some 99) (v := ?_) (a' := ?_) #[true, false, false, false, true, false, false, false, false, false, false, false] rfl rfl (take_ofW HT_.out HW_.out (by kernel_rfl)) (fun _ _ _ h => h) (Or.inl ⟨by rfl, ?_⟩) hHeld ?_ ?_
     rotate_left
     ·rintro w' ⟨s0, s1, s2, s3, s4⟩
      go_simp
      with_reducible rfl
     rotate_left
     ·simp only [Act.put, List.setIfInBounds_toArray, List.set_cons_zero, List.set_cons_succ, i64_w, i32_w]
      rfl
     refine take_ (i := 2) (N := some 101) (v := ?_) (a' := ?_) #[true, false, true, false, true, false, false, false, false, false, false, false] rfl rfl (take_ofW HT_.out HW_.out (by kernel_rfl)) (fun _ _ _ h => h) (Or.inl ⟨by rfl, ?_⟩) hHeld ?_ ?_
     rotate_left
     ·rintro w' ⟨s0, s1, s2, s3, s4⟩
      go_simp
      with_reducible rfl
     rotate_left
     ·simp only [Act.put, List.setIfInBounds_toArray, List.set_cons_zero, List.set_cons_succ, i64_w, i32_w]
      rfl
     refine one_ (i := 1) (N := some 100) #[true, true, true, false, true, false, false, false, false, false, false, false] rfl rfl (one_of HT_.out (by kernel_rfl)) (by decide) (fun K hK => ?_)
     refine goes_ Try.func17 (by kernel_rfl) rfl #[.agg #[.int .i64 a0_0, .int .i64 a0_1, .slice A0_2 l0_2.length c0_2]] (by rfl) rfl rfl zj3 ?_
     with_reducible refine (laws_toBoard.calls kj61 a0_0 a0_1 _ _ l0_2 t301 t302 t303 _ ?side1 ?side2 A88.out).mono ?_
     (case side1 => exact zj13)
     (case side2 => exact HC0_2.out)
     rintro e w96 ⟨v304, rfl, ho0, hb⟩
     refine ⟨_, rfl, ?_⟩
     have n0_ := Aside0.mk (Kd.R_elder' zj10 (Kd.R_base ho0) hb)
     have n1_ := Aside0.mk (Kd.R_elder' zj9 (Kd.R_base ho0) hb)
     have n2_ := Aside0.mk (Kd.R_elder' zj8 (Kd.R_base ho0) hb)
     have n3_ := Aside0.mk (Kd.R_lower (Kd.R_new' (Kd.R_new' (Kd.R_new' ho0 (Kd.R_lt zj10)) (Kd.R_lt zj9)) (Kd.R_lt zj8)) (below_size zj1))
     have n4_ := Aside0.mk (blk_below (g := gb250) (o := .cells #[.int .i64 a0_0, .int .i64 a0_1, .slice A0_2 l0_2.length c0_2] 24 (0, 0)) zj2 hb)
     have n5_ := Aside0.mk (blk_below (g := gb251) (o := .cells #[.int .i64 a1_0, .int .i64 a1_1] 26 (0, 0)) zj4 hb)
     have n6_ := Aside0.mk (blk_below (g := gb272) (o := .cells #[.int .i64 t267, .int .i64 t268, .slice Ao41 t294.length co41] 30 (0, 0)) zj7 hb)
     have n7_ := Aside0.mk (below_step zj1 hb)
     clear HO_8
     clear HO_12
     clear HO_273002
     clear BK250
     clear BK251
     clear BK272
     clear HB
     have HO_8 := n0_
     have HO_12 := n1_
     have HO_273002 := n2_
     have HO305 := n3_
     have BK250 := n4_
     have BK251 := n5_
     have BK272 := n6_
     have HB := n7_
     clear n0_ n1_ n2_ n3_ n4_ n5_ n6_ n7_
     (try clear hb)
     (try clear hb2)
     (try clear hk)
     (try clear hi)
     (try clear ho0)
     (try clear hna_)
     (try clear hnb_)
     refine hK.out _ _ ⟨(blk_cell BK250.out 0).trans rfl, (blk_cell BK250.out 1).trans rfl, (blk_cell BK250.out 2).trans rfl, (blk_cell BK251.out 0).trans rfl, (blk_cell BK251.out 1).trans rfl⟩ (fun hHeld => ?_)
     clear hK K
     refine norm_ (a' := ?_) ?_ ?_
     rotate_left
     ·show Act.put _ (some 100) _ = _
      simp only [Act.put, List.setIfInBounds_toArray, List.set_cons_zero, List.set_cons_succ, i64_w, i32_w]
      rfl
     refine one_ (i := 3) (N := some 102) #[true, true, true, true, true, false, false, false, false, false, false, false] rfl rfl (one_of HT_.out (by kernel_rfl)) (by decide) (fun K hK => ?_)
     refine goes_ Try.func18 (by kernel_rfl) rfl #[.agg #[.int .i64 a1_0, .int .i64 a1_1]] (by rfl) rfl rfl zj3 ?_
     with_reducible refine (laws_toLeaper.calls a1_0 a1_1 t306 t307 _ A89.out).mono ?_
     rintro e w97 ⟨rfl, hb⟩
     refine ⟨_, rfl, ?_⟩
     have n0_ := Aside0.mk (Kd.R_below zj10 hb)
     have n1_ := Aside0.mk (Kd.R_below zj9 hb)
     have n2_ := Aside0.mk (Kd.R_below zj8 hb)
     have n3_ := Aside0.mk (Kd.R_below zj28 hb)
     have n4_ := Aside0.mk (blk_below (g := gb250) (o := .cells #[.int .i64 a0_0, .int .i64 a0_1, .slice A0_2 l0_2.length c0_2] 24 (0, 0)) zj2 hb)
     have n5_ := Aside0.mk (blk_below (g := gb251) (o := .cells #[.int .i64 a1_0, .int .i64 a1_1] 26 (0, 0)) zj4 hb)
     have n6_ := Aside0.mk (blk_below (g := gb272) (o := .cells #[.int .i64 t267, .int .i64 t268, .slice Ao41 t294.length co41] 30 (0, 0)) zj7 hb)
     have n7_ := Aside0.mk (below_step zj1 hb)
     clear HO_8
     clear HO_12
     clear HO_273002
     clear HO305
     clear BK250
     clear BK251
     clear BK272
     clear HB
     have HO_8 := n0_
     have HO_12 := n1_
     have HO_273002 := n2_
     have HO305 := n3_
     have BK250 := n4_
     have BK251 := n5_
     have BK272 := n6_
     have HB := n7_
     clear n0_ n1_ n2_ n3_ n4_ n5_ n6_ n7_
     (try clear hb)
     (try clear hb2)
     (try clear hk)
     (try clear hi)
     (try clear hna_)
     (try clear hnb_)
     refine hK.out _ _ ⟨(blk_cell BK250.out 0).trans rfl, (blk_cell BK250.out 1).trans rfl, (blk_cell BK250.out 2).trans rfl, (blk_cell BK251.out 0).trans rfl, (blk_cell BK251.out 1).trans rfl⟩ (fun hHeld => ?_)
     clear hK K
     refine norm_ (a' := ?_) ?_ ?_
     rotate_left
     ·show Act.put _ (some 102) _ = _
      simp only [Act.put, List.setIfInBounds_toArray, List.set_cons_zero, List.set_cons_succ, i64_w, i32_w]
      rfl
     refine one_ (i := 5) (N := some 104) #[true, true, true, true, true, true, false, false, false, false, false, false] rfl rfl (one_of HT_.out (by kernel_rfl)) (by decide) (fun K hK => ?_)
     refine goes_ Try.func19 (by kernel_rfl) rfl #[.slice A2 l2.length c2] (by rfl) rfl rfl zj3 ?_
     with_reducible refine (laws_toIntS.calls kj61 _ _ l2 t308 _ ?side1 ?side2 A90.out).mono ?_
     (case side1 => exact zj21)
     (case side2 => exact HC2.out)
     rintro e w98 ⟨v309, rfl, ho0, hb⟩
     refine ⟨_, rfl, ?_⟩
     have n0_ := Aside0.mk (Kd.R_elder' zj10 (Kd.R_base ho0) hb)
     have n1_ := Aside0.mk (Kd.R_elder' zj9 (Kd.R_base ho0) hb)
     have n2_ := Aside0.mk (Kd.R_elder' zj8 (Kd.R_base ho0) hb)
     have n3_ := Aside0.mk (Kd.R_elder' zj28 (Kd.R_base ho0) hb)
     have n4_ := Aside0.mk (Kd.R_lower (Kd.R_new' (Kd.R_new' (Kd.R_new' (Kd.R_new' ho0 (Kd.R_lt zj10)) (Kd.R_lt zj9)) (Kd.R_lt zj8)) (Kd.R_lt zj28)) (below_size zj1))
     have n5_ := Aside0.mk (blk_below (g := gb250) (o := .cells #[.int .i64 a0_0, .int .i64 a0_1, .slice A0_2 l0_2.length c0_2] 24 (0, 0)) zj2 hb)
     have n6_ := Aside0.mk (blk_below (g := gb251) (o := .cells #[.int .i64 a1_0, .int .i64 a1_1] 26 (0, 0)) zj4 hb)
     have n7_ := Aside0.mk (blk_below (g := gb272) (o := .cells #[.int .i64 t267, .int .i64 t268, .slice Ao41 t294.length co41] 30 (0, 0)) zj7 hb)
     have n8_ := Aside0.mk (below_step zj1 hb)
     clear HO_8
     clear HO_12
     clear HO_273002
     clear HO305
     clear BK250
     clear BK251
     clear BK272
     clear HB
     have HO_8 := n0_
     have HO_12 := n1_
     have HO_273002 := n2_
     have HO305 := n3_
     have HO310 := n4_
     have BK250 := n5_
     have BK251 := n6_
     have BK272 := n7_
     have HB := n8_
     clear n0_ n1_ n2_ n3_ n4_ n5_ n6_ n7_ n8_
     (try clear hb)
     (try clear hb2)
     (try clear hk)
     (try clear hi)
     (try clear ho0)
     (try clear hna_)
     (try clear hnb_)
     obtain ⟨Ao99, co99, eo99⟩ := Kd.R_slice HO305.out
     (first | subst eo99 | (injection eo99 with f1_ f2_ f3_; have f4_ := f1_.symm; have f5_ := f3_.symm; clear f1_ f2_ f3_; subst f4_; subst f5_))
     obtain ⟨Ao100, co100, eo100⟩ := Kd.R_slice HO310.out
     (first | subst eo100 | (injection eo100 with f1_ f2_ f3_; have f4_ := f1_.symm; have f5_ := f3_.symm; clear f1_ f2_ f3_; subst f4_; subst f5_))
     refine hK.out _ _ ⟨(blk_cell BK250.out 0).trans rfl, (blk_cell BK250.out 1).trans rfl, (blk_cell BK250.out 2).trans rfl, (blk_cell BK251.out 0).trans rfl, (blk_cell BK251.out 1).trans rfl⟩ (fun hHeld => ?_)
     clear hK K
     refine norm_ (a' := ?_) ?_ ?_
     rotate_left
     ·show Act.put _ (some 104) _ = _
      simp only [Act.put, List.setIfInBounds_toArray, List.set_cons_zero, List.set_cons_succ, i64_w, i32_w]
      rfl
     refine one_ (i := 6) (N := some 105) #[true, true, true, true, true, true, true, false, false, false, false, false] rfl rfl (one_of HT_.out (by kernel_rfl)) (by decide) (fun K hK => ?_)
     refine goes_ Try.func20 (by kernel_rfl) rfl #[.agg #[.int .i64 t301, .int .i64 t302, .slice Ao99 t303.length co99], .agg #[.int .i64 t306, .int .i64 t307], .slice Ao100 t308.length co100] (by rfl) rfl rfl zj3 ?_
     with_reducible refine (impl_BackPath.calls kj61 t301 t302 _ _ t303 t306 t307 _ _ t308 t311 t314 _ ?side1 ?side2 ?side3 ?side4 A91.out).mono ?_
     (case side1 => repeat (first | exact (Kd.R_reads' HO305.out).2.2 | (with_reducible refine Kd.C_alloc ?_ _) | (with_reducible refine Kd.C_drewN ?_ _) | (with_reducible refine Kd.C_drew ?_)))
     (case side2 => exact (Kd.R_reads' HO305.out).2.1)
     (case side3 => repeat (first | exact (Kd.R_reads' HO310.out).2.2 | (with_reducible refine Kd.C_alloc ?_ _) | (with_reducible refine Kd.C_drewN ?_ _) | (with_reducible refine Kd.C_drew ?_)))
     (case side4 => exact (Kd.R_reads' HO310.out).2.1)
     rintro e w101 ⟨v312, rfl, ho0, hb⟩
     refine ⟨_, rfl, ?_⟩
     have n0_ := Aside0.mk (Kd.R_elder' zj10 (Kd.R_base ho0) hb)
     have n1_ := Aside0.mk (Kd.R_elder' zj9 (Kd.R_base ho0) hb)
     have n2_ := Aside0.mk (Kd.R_elder' zj8 (Kd.R_base ho0) hb)
     have n3_ := Aside0.mk (Kd.R_elder' zj28 (Kd.R_base ho0) hb)
     have n4_ := Aside0.mk (Kd.R_elder' (by first | exact HO310.out | ((with_reducible repeat (first | apply Kd.R_alloc | apply Kd.R_drewN | apply Kd.R_drew)); exact HO310.out)) (Kd.R_base ho0) hb)
     have n5_ := Aside0.mk (Kd.R_lower (Kd.R_new' (Kd.R_new' (Kd.R_new' (Kd.R_new' (Kd.R_new' ho0 (Kd.R_lt zj10)) (Kd.R_lt zj9)) (Kd.R_lt zj8)) (Kd.R_lt zj28)) (Kd.R_lt (by first | exact HO310.out | ((with_reducible repeat (first | apply Kd.R_alloc | apply Kd.R_drewN | apply Kd.R_drew)); exact HO310.out)))) (below_size zj1))
     have n6_ := Aside0.mk (blk_below (g := gb250) (o := .cells #[.int .i64 a0_0, .int .i64 a0_1, .slice A0_2 l0_2.length c0_2] 24 (0, 0)) zj2 hb)
     have n7_ := Aside0.mk (blk_below (g := gb251) (o := .cells #[.int .i64 a1_0, .int .i64 a1_1] 26 (0, 0)) zj4 hb)
     have n8_ := Aside0.mk (blk_below (g := gb272) (o := .cells #[.int .i64 t267, .int .i64 t268, .slice Ao41 t294.length co41] 30 (0, 0)) zj7 hb)
     have n9_ := Aside0.mk (below_step zj1 hb)
     clear HO_8
     clear HO_12
     clear HO_273002
     clear HO305
     clear HO310
     clear BK250
     clear BK251
     clear BK272
     clear HB
     have HO_8 := n0_
     have HO_12 := n1_
     have HO_273002 := n2_
     have HO305 := n3_
     have HO310 := n4_
     have HO313 := n5_
     have BK250 := n6_
     have BK251 := n7_
     have BK272 := n8_
     have HB := n9_
     clear n0_ n1_ n2_ n3_ n4_ n5_ n6_ n7_ n8_ n9_
     (try clear hb)
     (try clear hb2)
     (try clear hk)
     (try clear hi)
     (try clear ho0)
     (try clear hna_)
     (try clear hnb_)
     refine hK.out _ _ ⟨(blk_cell BK250.out 0).trans rfl, (blk_cell BK250.out 1).trans rfl, (blk_cell BK250.out 2).trans rfl, (blk_cell BK251.out 0).trans rfl, (blk_cell BK251.out 1).trans rfl⟩ (fun hHeld => ?_)
     clear hK K
     refine norm_ (a' := ?_) ?_ ?_
     rotate_left
     ·show Act.put _ (some 105) _ = _
      simp only [Act.put, List.setIfInBounds_toArray, List.set_cons_zero, List.set_cons_succ, i64_w, i32_w]
      rfl
     refine pure_ (i := 7) (N := some 98) (v := ?_) (a' := ?_) #[true, true, true, true, true, true, true, true, false, false, false, false] rfl rfl (any_of HT_.out (by kernel_rfl)) (fun _ _ _ h => h) (Or.inl ⟨by rfl, ?_⟩) ?_ ?_
     rotate_left
     ·intro w'
      go_simp
      with_reducible rfl
     rotate_left
     ·simp only [Act.put, List.setIfInBounds_toArray, List.set_cons_zero, List.set_cons_succ, i64_w, i32_w]
      rfl
     refine pure_ (i := 8) (N := some 106) (v := ?_) (a' := ?_) #[true, true, true, true, true, true, true, true, true, false, false, false] rfl rfl (any_of HT_.out (by kernel_rfl)) (fun _ _ _ h => h) (Or.inl ⟨by rfl, ?_⟩) ?_ ?_
     rotate_left
     ·intro w'
      go_simp
      with_reducible rfl
     rotate_left
     ·simp only [Act.put, List.setIfInBounds_toArray, List.set_cons_zero, List.set_cons_succ, i64_w, i32_w]
      rfl
     refine pure_ (i := 9) (N := some 107) (v := ?_) (a' := ?_) #[true, true, true, true, true, true, true, true, true, true, false, false] rfl rfl (any_of HT_.out (by kernel_rfl)) (fun _ _ _ h => h) (Or.inl ⟨by rfl, ?_⟩) ?_ ?_
     rotate_left
     ·intro w'
      go_simp
      with_reducible rfl
     rotate_left
     ·simp only [Act.put, List.setIfInBounds_toArray, List.set_cons_zero, List.set_cons_succ, i64_w, i32_w]
      rfl
     refine pure_ (i := 10) (N := some 17) (v := ?_) (a' := ?_) #[true, true, true, true, true, true, true, true, true, true, true, false] rfl rfl (any_of HT_.out (by kernel_rfl)) (fun _ _ _ h => h) (Or.inl ⟨by rfl, ?_⟩) ?_ ?_
     rotate_left
     ·intro w'
      go_simp
      with_reducible rfl
     rotate_left
     ·simp only [Act.put, List.setIfInBounds_toArray, List.set_cons_zero, List.set_cons_succ, i64_w, i32_w]
      rfl
     refine pure_ (i := 11) (N := some 18) (v := ?_) (a' := ?_) #[true, true, true, true, true, true, true, true, true, true, true, true] rfl rfl (any_of HT_.out (by kernel_rfl)) (fun _ _ _ h => h) (Or.inl ⟨by rfl, ?_⟩) ?_ ?_
     rotate_left
     ·intro w'
      go_simp
      with_reducible rfl
     rotate_left
     ·simp only [Act.put, List.setIfInBounds_toArray, List.set_cons_zero, List.set_cons_succ, i64_w, i32_w]
      rfl
     refine done_ (done_of HT_.out (by kernel_rfl)) ?_
     go_upto_region 31 with (fail)
     go_cut [116] (fun v116 wc => ∃ (kq : Nat) (x116_91 : Bool), v116 = .bool x116_91 ∧ Aside0 (laws_FnExactBackPath.j2 kq t299 t298 x116_91 = some r) ∧ Aside0 (kq ≤ kj61) ∧ Aside0 (Kd.R (Kd.int .i64) 3 wc w.heap.size (fun k_ => some k_ ≠ ((.slice Ao41 t294.length co41) : Value).ownBlock) (.slice Ao93 t278.length co93) t299) ∧ Aside0 (Kd.R (Kd.int .i64) 3 wc w.heap.size (fun k_ => some k_ ≠ ((.slice Ao93 t278.length co93) : Value).ownBlock) (.slice Ao41 t294.length co41) t294) ∧ Aside0 (wc.heap[gb250]? = some (.cells #[.int .i64 a0_0, .int .i64 a0_1, (.slice A0_2 l0_2.length c0_2)] 24 (0, 0))) ∧ Aside0 (wc.heap[gb251]? = some (.cells #[.int .i64 a1_0, .int .i64 a1_1] 26 (0, 0))) ∧ Aside0 (wc.heap[gb272]? = some (.cells #[.int .i64 t267, .int .i64 t268, (.slice Ao41 t294.length co41)] 30 (0, 0))) ∧ Aside0 (Below w.heap.size w wc))
     case first =>
      have H := HC92.out
      clear HC92
      replace H := Option.bind_eq_some_iff.mp H
      obtain ⟨t315, A1020, H⟩ := H
      replace H : (if t315 = true then (laws_FnExactBackPath.j2 kj61 t299 t298 (t314 != t266)) else (laws_FnExactBackPath.j2 kj61 t299 t298 true)) = some r := H
      have A102 := Aside0.mk A1020
      clear A1020
      by_cases c103 : t315 = true
      ·subst c103
       have H1 : (laws_FnExactBackPath.j2 kj61 t299 t298 (t314 != t266)) = some r := by rw [if_pos rfl] at H; exact H
       clear H
       have H := H1
       clear H1
       have H' := Aside0.mk H
       clear H
       obtain ⟨Ao104, co104, eo104⟩ := Kd.R_slice HO313.out
       subst eo104
       obtain ⟨Ao105, co105, eo105⟩ := Kd.R_slice HO_8.out
       subst eo105
       go_wp2_with (first | ((with_reducible refine gate_callee (f := 21) rfl ?_); refine goesL_ (some 110) rfl rfl Try.func21 (by kernel_rfl) rfl #[.slice Ao104 t311.length co104, .slice Ao105 t263.length co105] rfl zj3 ?_; (with_reducible refine (laws_eqIntS.calls kj61 _ _ t311 _ _ t263 true _ ?side1 ?side2 ?side3 ?side4 A102.out).mono ?_); (case side1 => exact zj45); (case side2 => exact (Kd.R_reads' HO313.out).2.1); (case side3 => exact zj22); (case side4 => exact (Kd.R_reads' HO_8.out).2.1); rintro e w' ⟨rfl, ⟨nd, rfl⟩⟩; refine ⟨_, rfl, ?_⟩))
       go_meet
       case rel => exact ⟨_, ((t314 != t266)), zj35, H', ⟨by have := HJ21.out; have := HJ61.out; first | omega | exact Nat.le_refl _⟩, ⟨zj39⟩, ⟨zj38⟩, ⟨zj51⟩, ⟨zj50⟩, ⟨zj49⟩, ⟨zj1⟩⟩
      replace c103 := Bool.eq_false_iff.mpr c103
      subst c103
      have H1 : (laws_FnExactBackPath.j2 kj61 t299 t298 true) = some r := by rw [if_neg (show ¬ (false = true) by decide)] at H; exact H
      clear H
      have H := H1
      clear H1
      have H' := Aside0.mk H
      clear H
      obtain ⟨Ao106, co106, eo106⟩ := Kd.R_slice HO313.out
      subst eo106
      obtain ⟨Ao107, co107, eo107⟩ := Kd.R_slice HO_8.out
      subst eo107
      go_wp2_with (first | ((with_reducible refine gate_callee (f := 21) rfl ?_); refine goesL_ (some 110) rfl rfl Try.func21 (by kernel_rfl) rfl #[.slice Ao106 t311.length co106, .slice Ao107 t263.length co107] rfl zj3 ?_; (with_reducible refine (laws_eqIntS.calls kj61 _ _ t311 _ _ t263 false _ ?side1 ?side2 ?side3 ?side4 A102.out).mono ?_); (case side1 => exact zj45); (case side2 => exact (Kd.R_reads' HO313.out).2.1); (case side3 => exact zj22); (case side4 => exact (Kd.R_reads' HO_8.out).2.1); rintro e w' ⟨rfl, ⟨nd, rfl⟩⟩; refine ⟨_, rfl, ?_⟩))
      go_meet
      case rel => exact ⟨_, (true), zj35, H', ⟨by have := HJ21.out; have := HJ61.out; first | omega | exact Nat.le_refl _⟩, ⟨zj39⟩, ⟨zj38⟩, ⟨zj51⟩, ⟨zj50⟩, ⟨zj49⟩, ⟨zj1⟩⟩
     case rest =>
      clear HC92
      try clear c1; try clear c2; try clear p2; try clear c3; try clear c4; try clear c4b0; try clear c4b1; try clear c5; try clear c6; try clear c7; try clear c8; try clear c8b0; try clear c10; try clear c11; try clear c15; try clear c16; try clear c17; try clear c18; try clear c19; try clear c20; try clear c21; try clear c22; try clear c23; try clear c24; try clear c25; try clear c38; try clear c39; try clear c48; try clear c53; try clear c56; try clear c59; try clear c69; try clear c70; try clear c74; try clear c74b0; try clear c76; try clear c81; try clear c84; try clear c84b0; try clear c87; try clear c87b0
      try clear c87b1; try clear c103; try clear hcz12_0; try clear hcz12_1; try clear hcz12_2; try clear hcz26_0; try clear hcz26_1; try clear hcz26_2; try clear hcz35_0; try clear hcz35_1; try clear hcz35_2; try clear hcz40_0; try clear hcz40_1; try clear hcz40_2; try clear hcz71_0; try clear hcz71_1; try clear hcz71_2; try clear hfz12_0; try clear hfz12_1; try clear hfz12_2; try clear hfz26_0; try clear hfz26_1; try clear hfz26_2; try clear hfz35_0; try clear hfz35_1; try clear hfz35_2; try clear hfz40_0; try clear hfz40_1; try clear hfz40_2; try clear hfz71_0; try clear hfz71_1; try clear hfz71_2
      try clear p2
      obtain ⟨kq, x116_91, rfl, HA, HJ91, HO_12, HO_273002, BK250, BK251, BK272, HB⟩ := hcut
      have hl12_91 := (Kd.R_reads' HO_12.out).1
      rw [hl12_91] at HO_12
      (try simp only [hl12_91])
      (try simp only [hl12_91] at BK250)
      (try simp only [hl12_91] at BK251)
      (try simp only [hl12_91] at BK272)
      (try simp only [hl12_91] at HO_273002)
      cases kq with
      | zero => exact absurd HA.out (by simp [laws_FnExactBackPath.j2])
      | succ kj91 =>
       have H := HA.out
       clear HA
       simp only [laws_FnExactBackPath.j2] at H
       by_cases c108 : x116_91 = true
       ·subst c108
        have H1 : (some false) = some r := by rw [if_pos rfl] at H; exact H
        clear H
        have H := H1
        clear H1
        obtain rfl := Option.some.inj H
        go_wp2
        go_ret
        exact ⟨zj17, zj1⟩
       replace c108 := Bool.eq_false_iff.mpr c108
       subst c108
       have H1 : ((laws_heldIntS.f kj91 t299 1).bind fun t316 => (if t316 < 0 then (some false) else (if t316 = t298 then (some true) else (some false)))) = some r := by rw [if_neg (show ¬ (false = true) by decide)] at H; exact H
       clear H
       have H := H1
       clear H1
       replace H := Option.bind_eq_some_iff.mp H
       obtain ⟨t316, A1090, H⟩ := H
       replace H : (if t316 < 0 then (some false) else (if t316 = t298 then (some true) else (some false))) = some r := H
       have A109 := Aside0.mk A1090
       clear A1090
       by_cases c110 : t316 < 0
       ·rw [if_pos c110] at H
        have c110b0 : decide (t316 < 0) = true := decide_eq_true c110
        clear c110
        obtain rfl := Option.some.inj H
        go_wp2_with (first | ((with_reducible refine gate_callee (f := 25) rfl ?_); refine goesL_ (some 119) rfl rfl Try.func25 (by kernel_rfl) rfl #[.slice Ao93 t299.length co93, .int .i64 1] rfl zj3 ?_; (with_reducible refine (laws_heldIntS.calls kj91 _ _ t299 1 t316 _ ?side1 ?side2 A109.out).mono ?_); (case side1 => exact zj14); (case side2 => exact (Kd.R_reads' HO_12.out).2.1); rintro e w' ⟨rfl, ⟨nd, rfl⟩⟩; refine ⟨_, rfl, ?_⟩))
        go_ret
        exact ⟨zj17, zj1⟩
       rw [if_neg c110] at H
       have c110b0 : decide (t316 < 0) = false := decide_eq_false c110
       clear c110
       by_cases c111 : t316 = t298
       rotate_left
       ·rw [if_neg c111] at H
        have c111b0 : (t316 == t298) = false := beq_eq_false_iff_ne.mpr c111
        have c111b1 : (t316 != t298) = true := bne_iff_ne.mpr c111
        obtain rfl := Option.some.inj H
        go_wp2_with (first | ((with_reducible refine gate_callee (f := 25) rfl ?_); refine goesL_ (some 119) rfl rfl Try.func25 (by kernel_rfl) rfl #[.slice Ao93 t299.length co93, .int .i64 1] rfl zj3 ?_; (with_reducible refine (laws_heldIntS.calls kj91 _ _ t299 1 t316 _ ?side1 ?side2 A109.out).mono ?_); (case side1 => exact zj14); (case side2 => exact (Kd.R_reads' HO_12.out).2.1); rintro e w' ⟨rfl, ⟨nd, rfl⟩⟩; refine ⟨_, rfl, ?_⟩))
        go_ret
        exact ⟨zj17, zj1⟩
       rw [if_pos c111] at H
       have c111b0 : (t316 == t298) = true := beq_iff_eq.mpr c111
       have c111b1 : (t316 != t298) = false := bne_eq_false_iff_eq.mpr c111
       clear c111
       obtain rfl := Option.some.inj H
       go_wp2_with (first | ((with_reducible refine gate_callee (f := 25) rfl ?_); refine goesL_ (some 119) rfl rfl Try.func25 (by kernel_rfl) rfl #[.slice Ao93 t299.length co93, .int .i64 1] rfl zj3 ?_; (with_reducible refine (laws_heldIntS.calls kj91 _ _ t299 1 t316 _ ?side1 ?side2 A109.out).mono ?_); (case side1 => exact zj14); (case side2 => exact (Kd.R_reads' HO_12.out).2.1); rintro e w' ⟨rfl, ⟨nd, rfl⟩⟩; refine ⟨_, rfl, ?_⟩))
       go_ret
       exact ⟨zj17, zj1⟩

end Go.Proofs.Ytjeongckkfkehaa.Q

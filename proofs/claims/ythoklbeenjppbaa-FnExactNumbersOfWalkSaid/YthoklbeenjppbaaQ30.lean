/- Written by a program of this session: functions of the translation as plain Lean functions, each with a proof that the call does what the plain function says; the conditions stand in each theorem. -/
import Derived.Test.YthoklbeenjppbaaQ0
import Derived.Test.YthoklbeenjppbaaQ1
import Derived.Test.YthoklbeenjppbaaQ2
import Derived.Test.YthoklbeenjppbaaQ5
import Derived.Test.YthoklbeenjppbaaQ29
import Derived.Test.YthoklbeenjppbaaQ31
namespace Go.Proofs.Ythoklbeenjppbaa.Q
open Go.RowKit Go.Proofs.YthoklbeenjppbaaW.PrintWords Go.Proofs.YthoklbeenjppbaaW.PrintLast Go.Proofs.YthoklbeenjppbaaW.PrintMore
attribute [local go_sem] max2_int min2_int max_two min_two max_three min_three max_four min_four   -- for this text's walks alone
set_option linter.unusedVariables false
set_option linter.unusedSimpArgs false

theorem zae1 {p : Prop} (h : p := by repeat (first | (with_reducible first | exact HB.out | apply below_alloc | apply pw_below_drewN | apply below_drew1 | refine below_set ?_ GE672.out | refine below_set ?_ GE673.out | refine below_set ?_ GE694.out) | exact HB.out)) : p := h
theorem zae2 {p : Prop} (h : p := by (with_reducible repeat (first | refine blk_drewN ?_ _ | refine blk_drew ?_ | refine blk_alloc ?_ _)); exact BK672.out) : p := h
theorem zae3 {p : Prop} (h : p := by (try simp only [List.map_toArray, List.map_cons, List.map_nil]); first | done | rfl | (simp only [List.length_drop, List.length_take]; rfl)) : p := h
theorem zae4 {p : Prop} (h : p := by (with_reducible repeat (first | refine blk_drewN ?_ _ | refine blk_drew ?_ | refine blk_alloc ?_ _)); exact BK673.out) : p := h
theorem zae6 {p : Prop} (h : p := by repeat (first | (with_reducible first | exact HB.out | apply below_alloc | apply pw_below_drewN | apply below_drew1 | refine below_set ?_ GE672.out | refine below_set ?_ GE673.out) | exact HB.out)) : p := h
theorem zae7 {p : Prop} (h : p := by (with_reducible repeat (first | refine blk_drewN ?_ _ | refine blk_drew ?_ | refine blk_alloc ?_ _)); exact BK694.out) : p := h
theorem zae8 {p : Prop} (h : p := by (with_reducible repeat (first | apply Kd.R_alloc | apply Kd.R_drewN | apply Kd.R_drew)); exact HO_695002.out) : p := h
theorem zae9 {p : Prop} (h : p := by (with_reducible repeat (first | apply Kd.R_alloc | apply Kd.R_drewN | apply Kd.R_drew)); exact HO_12.out) : p := h
theorem zae10 {p : Prop} (h : p := by (with_reducible repeat (first | apply Kd.R_alloc | apply Kd.R_drewN | apply Kd.R_drew)); exact HO_8.out) : p := h
theorem zae11 {p : Prop} (h : p := by repeat (first | (with_reducible first | exact HB.out | apply below_alloc | apply pw_below_drewN | apply below_drew1 | refine below_set ?_ GE672.out) | exact HB.out)) : p := h
theorem zae12 {p : Prop} (h : p := by (with_reducible repeat (first | apply Kd.R_alloc | apply Kd.R_drewN | apply Kd.R_drew)); exact HO_11.out) : p := h
theorem zae13 {p : Prop} (h : p := by repeat (first | exact (Kd.C_below HR0_2.out HB.out) | (with_reducible refine Kd.C_alloc ?_ _) | (with_reducible refine Kd.C_drewN ?_ _) | (with_reducible refine Kd.C_drew ?_))) : p := h
theorem zae14 {p : Prop} (h : p := by repeat (first | exact (Kd.R_reads' HO_12.out).2.2 | (with_reducible refine Kd.C_alloc ?_ _) | (with_reducible refine Kd.C_drewN ?_ _) | (with_reducible refine Kd.C_drew ?_))) : p := h
theorem zae15 {p : Prop} (h : p := by repeat (first | (with_reducible first | exact HB.out | apply below_alloc | apply pw_below_drewN | apply below_drew1) | exact HB.out)) : p := h
theorem zae16 {p : Prop} (h : p := by (with_reducible repeat (first | apply Kd.R_alloc | apply Kd.R_drewN | apply Kd.R_drew)); exact HO679.out) : p := h
theorem zae17 {p : Prop} (h : p := by first | rfl | (simp [errW_none, errW_some] <;> rfl) | (simp [*, errW_none, errW_some] <;> rfl)) : p := h
theorem zae18 {p : Prop} (h : p := by (with_reducible repeat (first | apply Kd.R_alloc | apply Kd.R_drewN | apply Kd.R_drew)); exact HO684.out) : p := h
theorem zae19 {p : Prop} (h : p := by (with_reducible repeat (first | apply Kd.R_alloc | apply Kd.R_drewN | apply Kd.R_drew)); exact HO709.out) : p := h
theorem zae20 {p : Prop} (h : p := by (with_reducible repeat (first | apply Kd.R_alloc | apply Kd.R_drewN | apply Kd.R_drew)); exact HO687.out) : p := h
theorem zae21 {p : Prop} (h : p := by repeat (first | exact (Kd.C_below HR2.out HB.out) | (with_reducible refine Kd.C_alloc ?_ _) | (with_reducible refine Kd.C_drewN ?_ _) | (with_reducible refine Kd.C_drew ?_))) : p := h
theorem zae22 {p : Prop} (h : p := by repeat (first | exact (Kd.R_reads' HO_8.out).2.2 | (with_reducible refine Kd.C_alloc ?_ _) | (with_reducible refine Kd.C_drewN ?_ _) | (with_reducible refine Kd.C_drew ?_))) : p := h
theorem zae23 {p : Prop} (h : p := by (try simp only [List.map_toArray, List.map_cons, List.map_nil]); first | done | (rw [show t721.length = t700.length from (Kd.R_reads' HO_12.out).1.symm] <;> rfl) | rfl | (simp only [List.length_drop, List.length_take]; rfl)) : p := h
theorem zae24 {p : Prop} (h : p := by (with_reducible repeat (first | apply Kd.R_alloc | apply Kd.R_drewN | apply Kd.R_drew)); exact (Kd.R_mono (Kd.R_far (p := ⟨gb694, 2, none⟩) (Kd.R_far (p := ⟨gb694, 1, none⟩) (Kd.R_far (p := ⟨gb694, 0, none⟩) (Kd.R_types HO693.out BK694.out (by decide)) (fun _ hk => hk.2) (.int .i64 t689)) (fun _ hk => hk.2) (.int .i64 t690)) (fun _ hk => hk.2) (.slice Ao41 t691.length co41)) (fun _ h_ => h_.1))) : p := h
theorem zae25 {p : Prop} (h : p := by (with_reducible repeat (first | apply Kd.R_alloc | apply Kd.R_drewN | apply Kd.R_drew)); exact (Kd.R_mono (Kd.R_far (p := ⟨gb694, 2, none⟩) (Kd.R_far (p := ⟨gb694, 1, none⟩) (Kd.R_far (p := ⟨gb694, 0, none⟩) (Kd.R_types HO687.out BK694.out (by decide)) (fun _ hk => hk.2) (.int .i64 t689)) (fun _ hk => hk.2) (.int .i64 t690)) (fun _ hk => hk.2) (.slice Ao41 t691.length co41)) (fun _ h_ => h_.1))) : p := h
theorem zae26 {p : Prop} (h : p := by (with_reducible repeat (first | apply Kd.R_alloc | apply Kd.R_drewN | apply Kd.R_drew)); exact (Kd.R_mono (Kd.R_far (p := ⟨gb694, 2, none⟩) (Kd.R_far (p := ⟨gb694, 1, none⟩) (Kd.R_far (p := ⟨gb694, 0, none⟩) (Kd.R_types HO684.out BK694.out (by decide)) (fun _ hk => hk.2) (.int .i64 t689)) (fun _ hk => hk.2) (.int .i64 t690)) (fun _ hk => hk.2) (.slice Ao41 t691.length co41)) (fun _ h_ => h_.1))) : p := h
theorem zae27 {p : Prop} (h : p := by (with_reducible repeat (first | apply Kd.R_alloc | apply Kd.R_drewN | apply Kd.R_drew)); exact (Kd.R_mono (Kd.R_far (p := ⟨gb694, 2, none⟩) (Kd.R_far (p := ⟨gb694, 1, none⟩) (Kd.R_far (p := ⟨gb694, 0, none⟩) (Kd.R_types HO679.out BK694.out (by decide)) (fun _ hk => hk.2) (.int .i64 t689)) (fun _ hk => hk.2) (.int .i64 t690)) (fun _ hk => hk.2) (.slice Ao41 t691.length co41)) (fun _ h_ => h_.1))) : p := h
theorem zae28 {p : Prop} (h : p := by (with_reducible repeat (first | apply Kd.R_alloc | apply Kd.R_drewN | apply Kd.R_drew)); exact HO727.out) : p := h
theorem zae29 {p : Prop} (h : p := by repeat (first | exact (Kd.R_reads' HO_695002.out).2.2 | (with_reducible refine Kd.C_alloc ?_ _) | (with_reducible refine Kd.C_drewN ?_ _) | (with_reducible refine Kd.C_drew ?_))) : p := h
theorem zae30 {p : Prop} (h : p := by repeat (first | exact (Kd.R_reads' HO709.out).2.2 | (with_reducible refine Kd.C_alloc ?_ _) | (with_reducible refine Kd.C_drewN ?_ _) | (with_reducible refine Kd.C_drew ?_))) : p := h
theorem zae31 {p : Prop} (h : p := by (with_reducible repeat (first | apply Kd.R_alloc | apply Kd.R_drewN | apply Kd.R_drew)); exact HO693.out) : p := h
theorem zae32 {p : Prop} (h : p := by (with_reducible repeat (first | apply Kd.R_alloc | apply Kd.R_drewN | apply Kd.R_drew)); exact Kd.R_mono HO_695002.out (fun _ hk => ⟨hk.1, hk.2.2.1⟩)) : p := h
theorem zae33 {p : Prop} (h : p := by (with_reducible repeat (first | apply Kd.R_alloc | apply Kd.R_drewN | apply Kd.R_drew)); exact Kd.R_mono HO_8.out (fun _ hk => ⟨hk.2.1, hk.2.2.1⟩)) : p := h
theorem zae34 {p : Prop} (h : p := by (with_reducible repeat (first | apply Kd.R_alloc | apply Kd.R_drewN | apply Kd.R_drew)); exact Kd.R_mono HO_12.out (fun _ hk => ⟨hk.1, hk.2.2.1⟩)) : p := h
theorem zae35 {p : Prop} (h : p := by first | rfl | (simp; done) | (simp [*]; done)) : p := h
theorem zae36 {p : Prop} (h : p := by (with_reducible repeat (first | apply Kd.R_alloc | apply Kd.R_drewN | apply Kd.R_drew)); exact HO697.out) : p := h
theorem zae37 {p : Prop} (h : p := by rw [show t721.length = t700.length from (Kd.R_reads' HO_12.out).1.symm]; exact (Kd.R_reads' HO_12.out).2.1) : p := h
theorem zae38 {p : Prop} (h : p := by (try simp only [hl695002_61]); (with_reducible repeat (first | apply Kd.R_alloc | apply Kd.R_drewN | apply Kd.R_drew)); exact Kd.R_mono HO_695002.out (fun _ hk => hk.1.1.1.2)) : p := h
theorem zae39 {p : Prop} (h : p := by (try simp only [hl695002_61]); (with_reducible repeat (first | apply Kd.R_alloc | apply Kd.R_drewN | apply Kd.R_drew)); exact Kd.R_mono HO_12.out (fun _ hk => hk.1.1.1.2)) : p := h
theorem zae40 {p : Prop} (h : p := by (with_reducible repeat (first | apply Kd.R_alloc | apply Kd.R_drewN | apply Kd.R_drew)); exact Kd.R_mono HO702.out (fun _ hk => ⟨hk.1.1.2, ⟨hk.2, hk.1.2⟩⟩)) : p := h
theorem zae41 {p : Prop} (h : p := by (with_reducible repeat (first | apply Kd.R_alloc | apply Kd.R_drewN | apply Kd.R_drew)); exact Kd.R_mono HO697.out (fun _ hk => ⟨hk.1.1.2, ⟨hk.2, hk.1.2⟩⟩)) : p := h
theorem zae42 {p : Prop} (h : p := by (with_reducible repeat (first | apply Kd.R_alloc | apply Kd.R_drewN | apply Kd.R_drew)); exact Kd.R_mono HO693.out (fun _ hk => ⟨hk.1.1.2, ⟨hk.1.2, hk.2⟩⟩)) : p := h
theorem zae43 {p : Prop} (h : p := by (with_reducible repeat (first | apply Kd.R_alloc | apply Kd.R_drewN | apply Kd.R_drew)); exact Kd.R_mono HO687.out (fun _ hk => ⟨hk.1.2, ⟨hk.2, hk.1.1.2⟩⟩)) : p := h
theorem zae44 {p : Prop} (h : p := by repeat (first | exact (Kd.R_reads' HO_11.out).2.2 | (with_reducible refine Kd.C_alloc ?_ _) | (with_reducible refine Kd.C_drewN ?_ _) | (with_reducible refine Kd.C_drew ?_))) : p := h
theorem zae45 {p : Prop} (h : p := by repeat (first | exact (Kd.R_reads' HO735.out).2.2 | (with_reducible refine Kd.C_alloc ?_ _) | (with_reducible refine Kd.C_drewN ?_ _) | (with_reducible refine Kd.C_drew ?_))) : p := h
theorem zae46 {p : Prop} (h : p := by repeat (first | exact (Kd.R_reads' HO713.out).2.2 | (with_reducible refine Kd.C_alloc ?_ _) | (with_reducible refine Kd.C_drewN ?_ _) | (with_reducible refine Kd.C_drew ?_))) : p := h
theorem zae47 {p : Prop} (h : p := by repeat (first | exact (Kd.R_reads' HO702.out).2.2 | (with_reducible refine Kd.C_alloc ?_ _) | (with_reducible refine Kd.C_drewN ?_ _) | (with_reducible refine Kd.C_drew ?_))) : p := h
theorem zae48 {p : Prop} (h : p := by repeat (first | exact (Kd.R_reads' HO687.out).2.2 | (with_reducible refine Kd.C_alloc ?_ _) | (with_reducible refine Kd.C_drewN ?_ _) | (with_reducible refine Kd.C_drew ?_))) : p := h
theorem zae49 {p : Prop} (h : p := by (try simp only [hl695002_61]); (with_reducible repeat (first | refine blk_drewN ?_ _ | refine blk_drew ?_ | refine blk_alloc ?_ _)); exact BK694.out) : p := h
theorem zae50 {p : Prop} (h : p := by (try simp only [hl695002_61]); (with_reducible repeat (first | refine blk_drewN ?_ _ | refine blk_drew ?_ | refine blk_alloc ?_ _)); exact BK673.out) : p := h
theorem zae51 {p : Prop} (h : p := by (try simp only [hl695002_61]); (with_reducible repeat (first | refine blk_drewN ?_ _ | refine blk_drew ?_ | refine blk_alloc ?_ _)); exact BK672.out) : p := h
theorem zae52 {p : Prop} (h : p := by rw [hg]; exact Nat.ne_of_lt (blk_lt (g := gb672) (o := .cells #[.int .i64 a0_0, .int .i64 a0_1, .slice A0_2 l0_2.length c0_2] 24 (0, 0)) zae2)) : p := h
theorem zae53 {p : Prop} (h : p := by rw [hg]; exact Nat.ne_of_gt (blk_lt (g := gb672) (o := .cells #[.int .i64 a0_0, .int .i64 a0_1, .slice A0_2 l0_2.length c0_2] 24 (0, 0)) zae2)) : p := h
theorem zae54 {p : Prop} (h : p := by rw [hg]; exact (below_size zae15)) : p := h
theorem zae55 {p : Prop} (h : p := by rw [hg]; exact (below_size zae11)) : p := h
/-! ### laws_FnExactNumbersOfWalk: function 7 -/
mutual
def laws_FnExactNumbersOfWalk.j0 : Nat → List Int → List Int → Bool → List Int → List Int → Bool → Bool → Int → Int → List Int → Int → Int → Int → Int → List Int → Option (Bool)
 | 0, _, _, _, _, _, _, _, _, _, _, _, _, _, _, _ => none
 | k + 1, x2, x8, x9, x11, x12, x13, x57, x673000, x673001, x673002, x674000, x674001, x695000, x695001, x695002 => if x57 = true then (some false) else ((laws_toBoard.f k x673000 x673001 x673002).bind fun bt705 => ((laws_eqBoard.f k x695000 x695001 x695002 bt705.1 bt705.2.1 bt705.2.2).bind fun t710 => (if t710 = true then ((laws_toIntS.f k x2).bind fun t711 => ((laws_eqIntS.f k x11 t711).bind fun t714 => (if t714 = true then ((laws_markBoard.f k x695000 x695001 x695002 1).bind fun bt715 => ((laws_markIntS.f k x11 bt715.1).bind fun bt717 => (if bt717.1 < 0 then (laws_FnExactNumbersOfWalk.j1 k x2 x8 x9 x12 true x673000 x673001 x673002 x674000 x674001) else ((laws_eqIntS.f k x12 x8).bind fun t719 => (if t719 = true then (laws_FnExactNumbersOfWalk.j1 k x2 x8 x9 x12 (x13 != x9) x673000 x673001 x673002 x674000 x674001) else (laws_FnExactNumbersOfWalk.j1 k x2 x8 x9 x12 true x673000 x673001 x673002 x674000 x674001)))))) else (some false)))) else (some false))))
def laws_FnExactNumbersOfWalk.j1 : Nat → List Int → List Int → Bool → List Int → Bool → Int → Int → List Int → Int → Int → Option (Bool)
 | 0, _, _, _, _, _, _, _, _, _, _ => none
 | k + 1, x2, x8, x9, x12, x86, x673000, x673001, x673002, x674000, x674001 => if x86 = true then (some false) else ((laws_markIntS.f k x12 1).bind fun bt720 => ((laws_heldIntS.f k bt720.2 1).bind fun t722 => (if t722 < 0 then (some false) else (if t722 = bt720.1 then ((laws_toBoard.f k x673000 x673001 x673002).bind fun bt723 => ((laws_toLeaper.f x674000 x674001).bind fun bt728 => ((laws_toIntS.f k x2).bind fun t730 => ((impl_NumbersOfWalk.f k bt723.1 bt723.2.1 bt723.2.2 bt728.1 bt728.2 t730).bind fun bt733 => ((laws_eqIntS.f k bt733.1 x8).bind fun t737 => (if t737 = true then (laws_FnExactNumbersOfWalk.j2 k bt720.2 bt720.1 (bt733.2 != x9)) else (laws_FnExactNumbersOfWalk.j2 k bt720.2 bt720.1 true))))))) else (some false)))))
def laws_FnExactNumbersOfWalk.j2 : Nat → List Int → Int → Bool → Option (Bool)
 | 0, _, _, _ => none
 | k + 1, x12, x15, x116 => if x116 = true then (some false) else ((laws_heldIntS.f k x12 1).bind fun t738 => (if t738 < 0 then (some false) else (if t738 = x15 then (some true) else (some false))))
end
def laws_FnExactNumbersOfWalk.f (k : Nat) (a0_0 : Int) (a0_1 : Int) (l0_2 : List Int) (a1_0 : Int) (a1_1 : Int) (l2 : List Int) : Option (Bool) := if (l2.length : Int) > 1048576 then (some true) else ((laws_szBoard.f a0_0 a0_1 l0_2 1048576).bind fun t674 => (if t674 < 0 then (some true) else ((laws_toBoard.f k a0_0 a0_1 l0_2).bind fun bt675 => ((laws_toLeaper.f a1_0 a1_1).bind fun bt680 => ((laws_toIntS.f k l2).bind fun t682 => ((spec_NumbersOfWalk.f k bt675.1 bt675.2.1 bt675.2.2 bt680.1 bt680.2 t682).bind fun bt685 => ((laws_toBoard.f k a0_0 a0_1 l0_2).bind fun bt689 => ((laws_toIntS.f k l2).bind fun t695 => ((laws_toLeaper.f a1_0 a1_1).bind fun bt698 => ((impl_NumbersOfWalk.f k bt689.1 bt689.2.1 bt689.2.2 bt698.1 bt698.2 t695).bind fun bt700 => ((laws_eqIntS.f k bt700.1 bt685.1).bind fun t704 => (if t704 = true then (laws_FnExactNumbersOfWalk.j0 k l2 bt685.1 bt685.2 t695 bt700.1 bt700.2 (bt700.2 != bt685.2) a0_0 a0_1 l0_2 a1_0 a1_1 bt689.1 bt689.2.1 bt689.2.2) else (laws_FnExactNumbersOfWalk.j0 k l2 bt685.1 bt685.2 t695 bt700.1 bt700.2 true a0_0 a0_1 l0_2 a1_0 a1_1 bt689.1 bt689.2.1 bt689.2.2)))))))))))))
def laws_FnExactNumbersOfWalk.T7 : Bool × List (List Nat × List Nat) := (true, [([], []), ([0], [0]), ([], []), ([2, 1], [2]), ([], []), ([4, 3], [4]), ([1, 3, 5, 5], [1, 3, 5]), ([6], [6]), ([7], [7]), ([7], [7]), ([8, 6, 0, 1, 2, 3, 4, 5, 6, 7, 8], [8]), ([9, 10, 0, 1, 2, 3, 4, 5, 6, 7, 8, 9, 10], [9])])
def laws_FnExactNumbersOfWalk.B7 : List Nat := [0, 1, 0, 7, 0, 31, 63, 127, 255, 255, 511, 2047]
theorem laws_FnExactNumbersOfWalk.tab7 : rtab .any (opsOf Try.f7 7) = laws_FnExactNumbersOfWalk.T7 := by kernel_rfl
theorem laws_FnExactNumbersOfWalk.bits7 : waitsOk laws_FnExactNumbersOfWalk.T7.2 laws_FnExactNumbersOfWalk.B7 = true := by kernel_rfl
def laws_FnExactNumbersOfWalk.T10 : Bool × List (List Nat × List Nat) := (true, [([], []), ([], []), ([1], [1]), ([], []), ([0, 2, 3, 2], [0, 2, 3]), ([4], [4]), ([5], [5]), ([5], [5]), ([6, 4, 0, 1, 2, 3, 4, 5, 6], [6]), ([7, 8, 0, 1, 2, 3, 4, 5, 6, 7, 8], [7])])
def laws_FnExactNumbersOfWalk.B10 : List Nat := [0, 0, 2, 0, 15, 31, 63, 63, 127, 511]
theorem laws_FnExactNumbersOfWalk.tab10 : rtab .any (opsOf Try.f7 10) = laws_FnExactNumbersOfWalk.T10 := by kernel_rfl
theorem laws_FnExactNumbersOfWalk.bits10 : waitsOk laws_FnExactNumbersOfWalk.T10.2 laws_FnExactNumbersOfWalk.B10 = true := by kernel_rfl
def laws_FnExactNumbersOfWalk.T30 : Bool × List (List Nat × List Nat) := (true, [([], []), ([0], [0]), ([], []), ([2, 1], [2]), ([], []), ([4, 3], [4]), ([1, 3, 5, 5], [1, 3, 5]), ([6], [6]), ([7], [7]), ([7], [7]), ([8, 6, 0, 1, 2, 3, 4, 5, 6, 7, 8], [8]), ([9, 10, 0, 1, 2, 3, 4, 5, 6, 7, 8, 9, 10], [9])])
def laws_FnExactNumbersOfWalk.B30 : List Nat := [0, 1, 0, 7, 0, 31, 63, 127, 255, 255, 511, 2047]
theorem laws_FnExactNumbersOfWalk.tab30 : rtab .any (opsOf Try.f7 30) = laws_FnExactNumbersOfWalk.T30 := by kernel_rfl
theorem laws_FnExactNumbersOfWalk.bits30 : waitsOk laws_FnExactNumbersOfWalk.T30.2 laws_FnExactNumbersOfWalk.B30 = true := by kernel_rfl
set_option maxHeartbeats 8000000 in
set_option maxRecDepth 100000 in
theorem laws_FnExactNumbersOfWalk.calls (k : Nat) (a0_0 : Int) (a0_1 : Int) (A0_2 : Option Addr) (c0_2 : Nat) (l0_2 : List Int) (a1_0 : Int) (a1_1 : Int) (A2 : Option Addr) (c2 : Nat) (l2 : List Int) (r : Bool) (w : World) (hr0_2 : Kd.C (Kd.int .i64) w A0_2 l0_2.length l0_2) (hc0_2 : l0_2.length ≤ c0_2) (hr2 : Kd.C (Kd.int .i64) w A2 l2.length l2) (hc2 : l2.length ≤ c2) (h : laws_FnExactNumbersOfWalk.f k a0_0 a0_1 l0_2 a1_0 a1_1 l2 = some r) :
  Calls Try.prog 7 #[.agg #[.int .i64 a0_0, .int .i64 a0_1, .slice A0_2 l0_2.length c0_2], .agg #[.int .i64 a1_0, .int .i64 a1_1], .slice A2 l2.length c2] w fun e w' => e = .returned (.bool r) ∧ Below w.heap.size w w' := by
 have hu24 := Try.underlying24
 have hu26 := Try.underlying26
 have hu30 := Try.underlying30
 have HR0_2 := Aside0.mk hr0_2
 have HC0_2 := Aside0.mk hc0_2
 clear hr0_2 hc0_2
 have HR2 := Aside0.mk hr2
 have HC2 := Aside0.mk hc2
 clear hr2 hc2
 have HB := Aside0.mk (Below.refl w.heap.size w)
 have H : (if (l2.length : Int) > 1048576 then (some true) else ((laws_szBoard.f a0_0 a0_1 l0_2 1048576).bind fun t674 => (if t674 < 0 then (some true) else ((laws_toBoard.f k a0_0 a0_1 l0_2).bind fun bt675 => ((laws_toLeaper.f a1_0 a1_1).bind fun bt680 => ((laws_toIntS.f k l2).bind fun t682 => ((spec_NumbersOfWalk.f k bt675.1 bt675.2.1 bt675.2.2 bt680.1 bt680.2 t682).bind fun bt685 => ((laws_toBoard.f k a0_0 a0_1 l0_2).bind fun bt689 => ((laws_toIntS.f k l2).bind fun t695 => ((laws_toLeaper.f a1_0 a1_1).bind fun bt698 => ((impl_NumbersOfWalk.f k bt689.1 bt689.2.1 bt689.2.2 bt698.1 bt698.2 t695).bind fun bt700 => ((laws_eqIntS.f k bt700.1 bt685.1).bind fun t704 => (if t704 = true then (laws_FnExactNumbersOfWalk.j0 k l2 bt685.1 bt685.2 t695 bt700.1 bt700.2 (bt700.2 != bt685.2) a0_0 a0_1 l0_2 a1_0 a1_1 bt689.1 bt689.2.1 bt689.2.2) else (laws_FnExactNumbersOfWalk.j0 k l2 bt685.1 bt685.2 t695 bt700.1 bt700.2 true a0_0 a0_1 l0_2 a1_0 a1_1 bt689.1 bt689.2.1 bt689.2.2)))))))))))))) = some r := h
 clear h
 by_cases c4 : (l2.length : Int) > 1048576
 ·rw [if_pos c4] at H
  have c4b0 : decide (1048576 < (l2.length : Int)) = true := decide_eq_true c4
  have c4b1 : decide (1048576 < l2.length) = true := decide_eq_true (by omega)
  clear c4
  obtain rfl := Option.some.inj H
  go_enter Try.func7, Try.ntmps7
  go_wp2_with (first | ((with_reducible refine gate_dst (N := 3) rfl ?_); refine box_event ?hg (N := 3) ?hd (cs := #[.int .i64 a0_0, .int .i64 a0_1, .slice A0_2 l0_2.length c0_2]) (t := 24) ?hr ?_; (case hd => rfl); (case hg => rfl); (case hr => first | (go_simp; done) | (go_simp; rfl)); intro gb672 hg w5 hbox hb; have n0_ := Aside0.mk (below_step zae15 hb); have n1_ := Aside0.mk (hbox); have n2_ := Aside0.mk ((zae54 : w.heap.size ≤ gb672)); have n3_ := Aside0.mk ((zae54 : w.heap.size ≤ gb672)); clear HB; have HB := n0_; have BK672 := n1_; have GW672 := n2_; have GE672 := n3_; clear n0_ n1_ n2_ n3_; clear hb hbox hg) | ((with_reducible refine gate_dst (N := 4) rfl ?_); refine box_event ?hg (N := 4) ?hd (cs := #[.int .i64 a1_0, .int .i64 a1_1]) (t := 26) ?hr ?_; (case hd => rfl); (case hg => rfl); (case hr => first | (go_simp; done) | (go_simp; rfl)); intro gb673 hg w6 hbox hb; have n0_ := Aside0.mk (blk_below (g := gb672) (o := .cells #[.int .i64 a0_0, .int .i64 a0_1, .slice A0_2 l0_2.length c0_2] 24 (0, 0)) zae2 hb); have n1_ := Aside0.mk (below_step zae11 hb); have n2_ := Aside0.mk (hbox); have n3_ := Aside0.mk ((zae55 : w.heap.size ≤ gb673)); have n4_ := Aside0.mk ((zae55 : w.heap.size ≤ gb673)); have n5_ := Aside0.mk ((zae52 : gb672 ≠ gb673)); have n6_ := Aside0.mk ((zae53 : gb673 ≠ gb672)); clear BK672; clear HB; have BK672 := n0_; have HB := n1_; have BK673 := n2_; have GW673 := n3_; have GE673 := n4_; have NB672_673 := n5_; have NB673_672 := n6_; clear n0_ n1_ n2_ n3_ n4_ n5_ n6_; clear hb hbox hg))
  go_ret
  exact ⟨zae17, zae6⟩
 rw [if_neg c4] at H
 have c4b0 : decide (1048576 < (l2.length : Int)) = false := decide_eq_false c4
 have c4b1 : decide (1048576 < l2.length) = false := decide_eq_false (by omega)
 clear c4
 replace H := Option.bind_eq_some_iff.mp H
 obtain ⟨t674, A70, H⟩ := H
 replace H : (if t674 < 0 then (some true) else ((laws_toBoard.f k a0_0 a0_1 l0_2).bind fun bt675 => ((laws_toLeaper.f a1_0 a1_1).bind fun bt680 => ((laws_toIntS.f k l2).bind fun t682 => ((spec_NumbersOfWalk.f k bt675.1 bt675.2.1 bt675.2.2 bt680.1 bt680.2 t682).bind fun bt685 => ((laws_toBoard.f k a0_0 a0_1 l0_2).bind fun bt689 => ((laws_toIntS.f k l2).bind fun t695 => ((laws_toLeaper.f a1_0 a1_1).bind fun bt698 => ((impl_NumbersOfWalk.f k bt689.1 bt689.2.1 bt689.2.2 bt698.1 bt698.2 t695).bind fun bt700 => ((laws_eqIntS.f k bt700.1 bt685.1).bind fun t704 => (if t704 = true then (laws_FnExactNumbersOfWalk.j0 k l2 bt685.1 bt685.2 t695 bt700.1 bt700.2 (bt700.2 != bt685.2) a0_0 a0_1 l0_2 a1_0 a1_1 bt689.1 bt689.2.1 bt689.2.2) else (laws_FnExactNumbersOfWalk.j0 k l2 bt685.1 bt685.2 t695 bt700.1 bt700.2 true a0_0 a0_1 l0_2 a1_0 a1_1 bt689.1 bt689.2.1 bt689.2.2)))))))))))) = some r := H
 have A7 := Aside0.mk A70
 clear A70
 by_cases c8 : t674 < 0
 ·rw [if_pos c8] at H
  have c8b0 : decide (t674 < 0) = true := decide_eq_true c8
  clear c8
  obtain rfl := Option.some.inj H
  go_enter Try.func7, Try.ntmps7
  go_wp2_with (first | ((with_reducible refine gate_dst (N := 3) rfl ?_); refine box_event ?hg (N := 3) ?hd (cs := #[.int .i64 a0_0, .int .i64 a0_1, .slice A0_2 l0_2.length c0_2]) (t := 24) ?hr ?_; (case hd => rfl); (case hg => rfl); (case hr => first | (go_simp; done) | (go_simp; rfl)); intro gb672 hg w9 hbox hb; have n0_ := Aside0.mk (below_step zae15 hb); have n1_ := Aside0.mk (hbox); have n2_ := Aside0.mk ((zae54 : w.heap.size ≤ gb672)); have n3_ := Aside0.mk ((zae54 : w.heap.size ≤ gb672)); clear HB; have HB := n0_; have BK672 := n1_; have GW672 := n2_; have GE672 := n3_; clear n0_ n1_ n2_ n3_; clear hb hbox hg) | ((with_reducible refine gate_dst (N := 4) rfl ?_); refine box_event ?hg (N := 4) ?hd (cs := #[.int .i64 a1_0, .int .i64 a1_1]) (t := 26) ?hr ?_; (case hd => rfl); (case hg => rfl); (case hr => first | (go_simp; done) | (go_simp; rfl)); intro gb673 hg w10 hbox hb; have n0_ := Aside0.mk (blk_below (g := gb672) (o := .cells #[.int .i64 a0_0, .int .i64 a0_1, .slice A0_2 l0_2.length c0_2] 24 (0, 0)) zae2 hb); have n1_ := Aside0.mk (below_step zae11 hb); have n2_ := Aside0.mk (hbox); have n3_ := Aside0.mk ((zae55 : w.heap.size ≤ gb673)); have n4_ := Aside0.mk ((zae55 : w.heap.size ≤ gb673)); have n5_ := Aside0.mk ((zae52 : gb672 ≠ gb673)); have n6_ := Aside0.mk ((zae53 : gb673 ≠ gb672)); clear BK672; clear HB; have BK672 := n0_; have HB := n1_; have BK673 := n2_; have GW673 := n3_; have GE673 := n4_; have NB672_673 := n5_; have NB673_672 := n6_; clear n0_ n1_ n2_ n3_ n4_ n5_ n6_; clear hb hbox hg; have hnb11 := NB672_673.out; have hnc11 := NB673_672.out; have hcz12_0 : w10.cell? ⟨gb672, 0, none⟩ = some (.int .i64 a0_0) := (blk_cell BK672.out 0).trans rfl; have hcz12_1 : w10.cell? ⟨gb672, 1, none⟩ = some (.int .i64 a0_1) := (blk_cell BK672.out 1).trans rfl; have hcz12_2 : w10.cell? ⟨gb672, 2, none⟩ = some (.slice A0_2 l0_2.length c0_2) := (blk_cell BK672.out 2).trans rfl; have hfz12_0 := blk_frozen BK672.out 0; have hfz12_1 := blk_frozen BK672.out 1; have hfz12_2 := blk_frozen BK672.out 2) | ((with_reducible refine gate_callee (f := 15) rfl ?_); refine goesL_ (some 24) rfl rfl Try.func15 (by kernel_rfl) rfl #[.agg #[.int .i64 a0_0, .int .i64 a0_1, .slice A0_2 l0_2.length c0_2], .int .i64 1048576] rfl zae3 ?_; (with_reducible refine (laws_szBoard.calls a0_0 a0_1 _ _ l0_2 1048576 t674 _ ?side1 ?side2 A7.out).mono ?_); (case side1 => exact zae13); (case side2 => exact HC0_2.out); rintro e w13 ⟨rfl, hb⟩; refine ⟨_, rfl, ?_⟩; have n0_ := Aside0.mk (blk_below (g := gb672) (o := .cells #[.int .i64 a0_0, .int .i64 a0_1, .slice A0_2 l0_2.length c0_2] 24 (0, 0)) zae2 hb); have n1_ := Aside0.mk (blk_below (g := gb673) (o := .cells #[.int .i64 a1_0, .int .i64 a1_1] 26 (0, 0)) zae4 hb); have n2_ := Aside0.mk (below_step zae6 hb); clear BK672; clear BK673; clear HB; have BK672 := n0_; have BK673 := n1_; have HB := n2_; clear n0_ n1_ n2_; (try clear hb); (try clear hb2); (try clear hk); (try clear hi); (try clear hna_); (try clear hnb_)))
  go_ret
  exact ⟨zae17, zae6⟩
 rw [if_neg c8] at H
 have c8b0 : decide (t674 < 0) = false := decide_eq_false c8
 clear c8
 replace H := Option.bind_eq_some_iff.mp H
 obtain ⟨⟨t675, t676, t677⟩, A140, H⟩ := H
 replace H : ((laws_toLeaper.f a1_0 a1_1).bind fun bt680 => ((laws_toIntS.f k l2).bind fun t682 => ((spec_NumbersOfWalk.f k t675 t676 t677 bt680.1 bt680.2 t682).bind fun bt685 => ((laws_toBoard.f k a0_0 a0_1 l0_2).bind fun bt689 => ((laws_toIntS.f k l2).bind fun t695 => ((laws_toLeaper.f a1_0 a1_1).bind fun bt698 => ((impl_NumbersOfWalk.f k bt689.1 bt689.2.1 bt689.2.2 bt698.1 bt698.2 t695).bind fun bt700 => ((laws_eqIntS.f k bt700.1 bt685.1).bind fun t704 => (if t704 = true then (laws_FnExactNumbersOfWalk.j0 k l2 bt685.1 bt685.2 t695 bt700.1 bt700.2 (bt700.2 != bt685.2) a0_0 a0_1 l0_2 a1_0 a1_1 bt689.1 bt689.2.1 bt689.2.2) else (laws_FnExactNumbersOfWalk.j0 k l2 bt685.1 bt685.2 t695 bt700.1 bt700.2 true a0_0 a0_1 l0_2 a1_0 a1_1 bt689.1 bt689.2.1 bt689.2.2)))))))))) = some r := H
 have A14 := Aside0.mk A140
 clear A140
 replace H := Option.bind_eq_some_iff.mp H
 obtain ⟨⟨t680, t681⟩, A150, H⟩ := H
 replace H : ((laws_toIntS.f k l2).bind fun t682 => ((spec_NumbersOfWalk.f k t675 t676 t677 t680 t681 t682).bind fun bt685 => ((laws_toBoard.f k a0_0 a0_1 l0_2).bind fun bt689 => ((laws_toIntS.f k l2).bind fun t695 => ((laws_toLeaper.f a1_0 a1_1).bind fun bt698 => ((impl_NumbersOfWalk.f k bt689.1 bt689.2.1 bt689.2.2 bt698.1 bt698.2 t695).bind fun bt700 => ((laws_eqIntS.f k bt700.1 bt685.1).bind fun t704 => (if t704 = true then (laws_FnExactNumbersOfWalk.j0 k l2 bt685.1 bt685.2 t695 bt700.1 bt700.2 (bt700.2 != bt685.2) a0_0 a0_1 l0_2 a1_0 a1_1 bt689.1 bt689.2.1 bt689.2.2) else (laws_FnExactNumbersOfWalk.j0 k l2 bt685.1 bt685.2 t695 bt700.1 bt700.2 true a0_0 a0_1 l0_2 a1_0 a1_1 bt689.1 bt689.2.1 bt689.2.2))))))))) = some r := H
 have A15 := Aside0.mk A150
 clear A150
 replace H := Option.bind_eq_some_iff.mp H
 obtain ⟨t682, A160, H⟩ := H
 replace H : ((spec_NumbersOfWalk.f k t675 t676 t677 t680 t681 t682).bind fun bt685 => ((laws_toBoard.f k a0_0 a0_1 l0_2).bind fun bt689 => ((laws_toIntS.f k l2).bind fun t695 => ((laws_toLeaper.f a1_0 a1_1).bind fun bt698 => ((impl_NumbersOfWalk.f k bt689.1 bt689.2.1 bt689.2.2 bt698.1 bt698.2 t695).bind fun bt700 => ((laws_eqIntS.f k bt700.1 bt685.1).bind fun t704 => (if t704 = true then (laws_FnExactNumbersOfWalk.j0 k l2 bt685.1 bt685.2 t695 bt700.1 bt700.2 (bt700.2 != bt685.2) a0_0 a0_1 l0_2 a1_0 a1_1 bt689.1 bt689.2.1 bt689.2.2) else (laws_FnExactNumbersOfWalk.j0 k l2 bt685.1 bt685.2 t695 bt700.1 bt700.2 true a0_0 a0_1 l0_2 a1_0 a1_1 bt689.1 bt689.2.1 bt689.2.2)))))))) = some r := H
 have A16 := Aside0.mk A160
 clear A160
 replace H := Option.bind_eq_some_iff.mp H
 obtain ⟨⟨t685, t688⟩, A170, H⟩ := H
 replace H : ((laws_toBoard.f k a0_0 a0_1 l0_2).bind fun bt689 => ((laws_toIntS.f k l2).bind fun t695 => ((laws_toLeaper.f a1_0 a1_1).bind fun bt698 => ((impl_NumbersOfWalk.f k bt689.1 bt689.2.1 bt689.2.2 bt698.1 bt698.2 t695).bind fun bt700 => ((laws_eqIntS.f k bt700.1 t685).bind fun t704 => (if t704 = true then (laws_FnExactNumbersOfWalk.j0 k l2 t685 t688 t695 bt700.1 bt700.2 (bt700.2 != t688) a0_0 a0_1 l0_2 a1_0 a1_1 bt689.1 bt689.2.1 bt689.2.2) else (laws_FnExactNumbersOfWalk.j0 k l2 t685 t688 t695 bt700.1 bt700.2 true a0_0 a0_1 l0_2 a1_0 a1_1 bt689.1 bt689.2.1 bt689.2.2))))))) = some r := H
 have A17 := Aside0.mk A170
 clear A170
 replace H := Option.bind_eq_some_iff.mp H
 obtain ⟨⟨t689, t690, t691⟩, A180, H⟩ := H
 replace H : ((laws_toIntS.f k l2).bind fun t695 => ((laws_toLeaper.f a1_0 a1_1).bind fun bt698 => ((impl_NumbersOfWalk.f k t689 t690 t691 bt698.1 bt698.2 t695).bind fun bt700 => ((laws_eqIntS.f k bt700.1 t685).bind fun t704 => (if t704 = true then (laws_FnExactNumbersOfWalk.j0 k l2 t685 t688 t695 bt700.1 bt700.2 (bt700.2 != t688) a0_0 a0_1 l0_2 a1_0 a1_1 t689 t690 t691) else (laws_FnExactNumbersOfWalk.j0 k l2 t685 t688 t695 bt700.1 bt700.2 true a0_0 a0_1 l0_2 a1_0 a1_1 t689 t690 t691)))))) = some r := H
 have A18 := Aside0.mk A180
 clear A180
 replace H := Option.bind_eq_some_iff.mp H
 obtain ⟨t695, A190, H⟩ := H
 replace H : ((laws_toLeaper.f a1_0 a1_1).bind fun bt698 => ((impl_NumbersOfWalk.f k t689 t690 t691 bt698.1 bt698.2 t695).bind fun bt700 => ((laws_eqIntS.f k bt700.1 t685).bind fun t704 => (if t704 = true then (laws_FnExactNumbersOfWalk.j0 k l2 t685 t688 t695 bt700.1 bt700.2 (bt700.2 != t688) a0_0 a0_1 l0_2 a1_0 a1_1 t689 t690 t691) else (laws_FnExactNumbersOfWalk.j0 k l2 t685 t688 t695 bt700.1 bt700.2 true a0_0 a0_1 l0_2 a1_0 a1_1 t689 t690 t691))))) = some r := H
 have A19 := Aside0.mk A190
 clear A190
 replace H := Option.bind_eq_some_iff.mp H
 obtain ⟨⟨t698, t699⟩, A200, H⟩ := H
 replace H : ((impl_NumbersOfWalk.f k t689 t690 t691 t698 t699 t695).bind fun bt700 => ((laws_eqIntS.f k bt700.1 t685).bind fun t704 => (if t704 = true then (laws_FnExactNumbersOfWalk.j0 k l2 t685 t688 t695 bt700.1 bt700.2 (bt700.2 != t688) a0_0 a0_1 l0_2 a1_0 a1_1 t689 t690 t691) else (laws_FnExactNumbersOfWalk.j0 k l2 t685 t688 t695 bt700.1 bt700.2 true a0_0 a0_1 l0_2 a1_0 a1_1 t689 t690 t691)))) = some r := H
 have A20 := Aside0.mk A200
 clear A200
 replace H := Option.bind_eq_some_iff.mp H
 obtain ⟨⟨t700, t703⟩, A210, H⟩ := H
 replace H : ((laws_eqIntS.f k t700 t685).bind fun t704 => (if t704 = true then (laws_FnExactNumbersOfWalk.j0 k l2 t685 t688 t695 t700 t703 (t703 != t688) a0_0 a0_1 l0_2 a1_0 a1_1 t689 t690 t691) else (laws_FnExactNumbersOfWalk.j0 k l2 t685 t688 t695 t700 t703 true a0_0 a0_1 l0_2 a1_0 a1_1 t689 t690 t691))) = some r := H
 have A21 := Aside0.mk A210
 clear A210
 have HC22 := Aside0.mk H
 clear H
 go_enter Try.func7, Try.ntmps7
 try go_wp2_with (first | ((with_reducible refine gate_dst (N := 3) rfl ?_); refine box_event ?hg (N := 3) ?hd (cs := #[.int .i64 a0_0, .int .i64 a0_1, .slice A0_2 l0_2.length c0_2]) (t := 24) ?hr ?_; (case hd => rfl); (case hg => rfl); (case hr => first | (go_simp; done) | (go_simp; rfl)); intro gb672 hg w23 hbox hb; have n0_ := Aside0.mk (below_step zae15 hb); have n1_ := Aside0.mk (hbox); have n2_ := Aside0.mk ((zae54 : w.heap.size ≤ gb672)); have n3_ := Aside0.mk ((zae54 : w.heap.size ≤ gb672)); clear HB; have HB := n0_; have BK672 := n1_; have GW672 := n2_; have GE672 := n3_; clear n0_ n1_ n2_ n3_; clear hb hbox hg) | ((with_reducible refine gate_dst (N := 4) rfl ?_); refine box_event ?hg (N := 4) ?hd (cs := #[.int .i64 a1_0, .int .i64 a1_1]) (t := 26) ?hr ?_; (case hd => rfl); (case hg => rfl); (case hr => first | (go_simp; done) | (go_simp; rfl)); intro gb673 hg w24 hbox hb; have n0_ := Aside0.mk (blk_below (g := gb672) (o := .cells #[.int .i64 a0_0, .int .i64 a0_1, .slice A0_2 l0_2.length c0_2] 24 (0, 0)) zae2 hb); have n1_ := Aside0.mk (below_step zae11 hb); have n2_ := Aside0.mk (hbox); have n3_ := Aside0.mk ((zae55 : w.heap.size ≤ gb673)); have n4_ := Aside0.mk ((zae55 : w.heap.size ≤ gb673)); have n5_ := Aside0.mk ((zae52 : gb672 ≠ gb673)); have n6_ := Aside0.mk ((zae53 : gb673 ≠ gb672)); clear BK672; clear HB; have BK672 := n0_; have HB := n1_; have BK673 := n2_; have GW673 := n3_; have GE673 := n4_; have NB672_673 := n5_; have NB673_672 := n6_; clear n0_ n1_ n2_ n3_ n4_ n5_ n6_; clear hb hbox hg; have hnb25 := NB672_673.out; have hnc25 := NB673_672.out; have hcz26_0 : w24.cell? ⟨gb672, 0, none⟩ = some (.int .i64 a0_0) := (blk_cell BK672.out 0).trans rfl; have hcz26_1 : w24.cell? ⟨gb672, 1, none⟩ = some (.int .i64 a0_1) := (blk_cell BK672.out 1).trans rfl; have hcz26_2 : w24.cell? ⟨gb672, 2, none⟩ = some (.slice A0_2 l0_2.length c0_2) := (blk_cell BK672.out 2).trans rfl; have hfz26_0 := blk_frozen BK672.out 0; have hfz26_1 := blk_frozen BK672.out 1; have hfz26_2 := blk_frozen BK672.out 2) | ((with_reducible refine gate_callee (f := 15) rfl ?_); refine goesL_ (some 24) rfl rfl Try.func15 (by kernel_rfl) rfl #[.agg #[.int .i64 a0_0, .int .i64 a0_1, .slice A0_2 l0_2.length c0_2], .int .i64 1048576] rfl zae3 ?_; (with_reducible refine (laws_szBoard.calls a0_0 a0_1 _ _ l0_2 1048576 t674 _ ?side1 ?side2 A7.out).mono ?_); (case side1 => exact zae13); (case side2 => exact HC0_2.out); rintro e w27 ⟨rfl, hb⟩; refine ⟨_, rfl, ?_⟩; have n0_ := Aside0.mk (blk_below (g := gb672) (o := .cells #[.int .i64 a0_0, .int .i64 a0_1, .slice A0_2 l0_2.length c0_2] 24 (0, 0)) zae2 hb); have n1_ := Aside0.mk (blk_below (g := gb673) (o := .cells #[.int .i64 a1_0, .int .i64 a1_1] 26 (0, 0)) zae4 hb); have n2_ := Aside0.mk (below_step zae6 hb); clear BK672; clear BK673; clear HB; have BK672 := n0_; have BK673 := n1_; have HB := n2_; clear n0_ n1_ n2_; (try clear hb); (try clear hb2); (try clear hk); (try clear hi); (try clear hna_); (try clear hnb_)))
 have n0_ := Aside0.mk (blk_drew BK672.out)
 have n1_ := Aside0.mk (blk_drew BK673.out)
 have n2_ := Aside0.mk (below_drew1 HB.out)
 clear BK672
 clear BK673
 clear HB
 have BK672 := n0_
 have BK673 := n1_
 have HB := n2_
 clear n0_ n1_ n2_
 refine start_ (n := 12) (S := fun w' => w'.cell? ⟨gb672, 0, none⟩ = some (.int .i64 a0_0) ∧ w'.cell? ⟨gb672, 1, none⟩ = some (.int .i64 a0_1) ∧ w'.cell? ⟨gb672, 2, none⟩ = some (.slice A0_2 l0_2.length c0_2) ∧ w'.cell? ⟨gb673, 0, none⟩ = some (.int .i64 a1_0) ∧ w'.cell? ⟨gb673, 1, none⟩ = some (.int .i64 a1_1)) (ds := []) #[false, false, false, false, false, false, false, false, false, false, false, false] (by kernel_rfl) rfl rfl ⟨(blk_cell BK672.out 0).trans rfl, (blk_cell BK672.out 1).trans rfl, (blk_cell BK672.out 2).trans rfl, (blk_cell BK673.out 0).trans rfl, (blk_cell BK673.out 1).trans rfl⟩ (fun hHeld => ?_); refine with_tabW laws_FnExactNumbersOfWalk.tab7 laws_FnExactNumbersOfWalk.bits7 (fun HT_ HW_ => ?_)
 generalize w27.drew = w28 at BK672 BK673 HB hHeld ⊢
 refine pure_ (i := 4) (N := some 32) (v := ?_) (a' := ?_) #[false, false, false, false, true, false, false, false, false, false, false, false] rfl rfl (any_of HT_.out (by kernel_rfl)) (fun _ _ _ h => h) (Or.inl ⟨by rfl, ?_⟩) ?_ ?_
 rotate_left
 ·intro w'
  go_simp
  with_reducible rfl
 rotate_left
 ·simp only [Act.put, List.setIfInBounds_toArray, List.set_cons_zero, List.set_cons_succ, i64_w, i32_w]
  rfl
 refine take_ (i := 0) (N := some 28) (v := ?_) (a' := ?_) #[true, false, false, false, true, false, false, false, false, false, false, false] rfl rfl (take_ofW HT_.out HW_.out (by kernel_rfl)) (fun _ _ _ h => h) (Or.inl ⟨by rfl, ?_⟩) hHeld ?_ ?_
 rotate_left
 ·rintro w' ⟨s0, s1, s2, s3, s4⟩
  go_simp
  with_reducible rfl
 rotate_left
 ·simp only [Act.put, List.setIfInBounds_toArray, List.set_cons_zero, List.set_cons_succ, i64_w, i32_w]
  rfl
 refine take_ (i := 2) (N := some 30) (v := ?_) (a' := ?_) #[true, false, true, false, true, false, false, false, false, false, false, false] rfl rfl (take_ofW HT_.out HW_.out (by kernel_rfl)) (fun _ _ _ h => h) (Or.inl ⟨by rfl, ?_⟩) hHeld ?_ ?_
 rotate_left
 ·rintro w' ⟨s0, s1, s2, s3, s4⟩
  go_simp
  with_reducible rfl
 rotate_left
 ·simp only [Act.put, List.setIfInBounds_toArray, List.set_cons_zero, List.set_cons_succ, i64_w, i32_w]
  rfl
 refine one_ (i := 1) (N := some 29) #[true, true, true, false, true, false, false, false, false, false, false, false] rfl rfl (one_of HT_.out (by kernel_rfl)) (by decide) (fun K hK => ?_)
 refine goes_ Try.func17 (by kernel_rfl) rfl #[.agg #[.int .i64 a0_0, .int .i64 a0_1, .slice A0_2 l0_2.length c0_2]] (by rfl) rfl rfl zae3 ?_
 with_reducible refine (laws_toBoard.calls k a0_0 a0_1 _ _ l0_2 t675 t676 t677 _ ?side1 ?side2 A14.out).mono ?_
 (case side1 => exact zae13)
 (case side2 => exact HC0_2.out)
 rintro e w29 ⟨v678, rfl, ho0, hb⟩
 refine ⟨_, rfl, ?_⟩
 have n0_ := Aside0.mk (Kd.R_lower ho0 (below_size zae6))
 have n1_ := Aside0.mk (blk_below (g := gb672) (o := .cells #[.int .i64 a0_0, .int .i64 a0_1, .slice A0_2 l0_2.length c0_2] 24 (0, 0)) zae2 hb)
 have n2_ := Aside0.mk (blk_below (g := gb673) (o := .cells #[.int .i64 a1_0, .int .i64 a1_1] 26 (0, 0)) zae4 hb)
 have n3_ := Aside0.mk (below_step zae6 hb)
 clear BK672
 clear BK673
 clear HB
 have HO679 := n0_
 have BK672 := n1_
 have BK673 := n2_
 have HB := n3_
 clear n0_ n1_ n2_ n3_
 (try clear hb)
 (try clear hb2)
 (try clear hk)
 (try clear hi)
 (try clear ho0)
 (try clear hna_)
 (try clear hnb_)
 refine hK.out _ _ ⟨(blk_cell BK672.out 0).trans rfl, (blk_cell BK672.out 1).trans rfl, (blk_cell BK672.out 2).trans rfl, (blk_cell BK673.out 0).trans rfl, (blk_cell BK673.out 1).trans rfl⟩ (fun hHeld => ?_)
 clear hK K
 refine norm_ (a' := ?_) ?_ ?_
 rotate_left
 ·show Act.put _ (some 29) _ = _
  simp only [Act.put, List.setIfInBounds_toArray, List.set_cons_zero, List.set_cons_succ, i64_w, i32_w]
  rfl
 refine one_ (i := 3) (N := some 31) #[true, true, true, true, true, false, false, false, false, false, false, false] rfl rfl (one_of HT_.out (by kernel_rfl)) (by decide) (fun K hK => ?_)
 refine goes_ Try.func18 (by kernel_rfl) rfl #[.agg #[.int .i64 a1_0, .int .i64 a1_1]] (by rfl) rfl rfl zae3 ?_
 with_reducible refine (laws_toLeaper.calls a1_0 a1_1 t680 t681 _ A15.out).mono ?_
 rintro e w30 ⟨rfl, hb⟩
 refine ⟨_, rfl, ?_⟩
 have n0_ := Aside0.mk (Kd.R_below zae16 hb)
 have n1_ := Aside0.mk (blk_below (g := gb672) (o := .cells #[.int .i64 a0_0, .int .i64 a0_1, .slice A0_2 l0_2.length c0_2] 24 (0, 0)) zae2 hb)
 have n2_ := Aside0.mk (blk_below (g := gb673) (o := .cells #[.int .i64 a1_0, .int .i64 a1_1] 26 (0, 0)) zae4 hb)
 have n3_ := Aside0.mk (below_step zae6 hb)
 clear HO679
 clear BK672
 clear BK673
 clear HB
 have HO679 := n0_
 have BK672 := n1_
 have BK673 := n2_
 have HB := n3_
 clear n0_ n1_ n2_ n3_
 (try clear hb)
 (try clear hb2)
 (try clear hk)
 (try clear hi)
 (try clear hna_)
 (try clear hnb_)
 refine hK.out _ _ ⟨(blk_cell BK672.out 0).trans rfl, (blk_cell BK672.out 1).trans rfl, (blk_cell BK672.out 2).trans rfl, (blk_cell BK673.out 0).trans rfl, (blk_cell BK673.out 1).trans rfl⟩ (fun hHeld => ?_)
 clear hK K
 refine norm_ (a' := ?_) ?_ ?_
 rotate_left
 ·show Act.put _ (some 31) _ = _
  simp only [Act.put, List.setIfInBounds_toArray, List.set_cons_zero, List.set_cons_succ, i64_w, i32_w]
  rfl
 refine one_ (i := 5) (N := some 33) #[true, true, true, true, true, true, false, false, false, false, false, false] rfl rfl (one_of HT_.out (by kernel_rfl)) (by decide) (fun K hK => ?_)
 refine goes_ Try.func19 (by kernel_rfl) rfl #[.slice A2 l2.length c2] (by rfl) rfl rfl zae3 ?_
 with_reducible refine (laws_toIntS.calls k _ _ l2 t682 _ ?side1 ?side2 A16.out).mono ?_
 (case side1 => exact zae21)
 (case side2 => exact HC2.out)
 rintro e w31 ⟨v683, rfl, ho0, hb⟩
 refine ⟨_, rfl, ?_⟩
 have n0_ := Aside0.mk (Kd.R_elder' zae16 (Kd.R_base ho0) hb)
 have n1_ := Aside0.mk (Kd.R_lower (Kd.R_new' ho0 (Kd.R_lt zae16)) (below_size zae6))
 have n2_ := Aside0.mk (blk_below (g := gb672) (o := .cells #[.int .i64 a0_0, .int .i64 a0_1, .slice A0_2 l0_2.length c0_2] 24 (0, 0)) zae2 hb)
 have n3_ := Aside0.mk (blk_below (g := gb673) (o := .cells #[.int .i64 a1_0, .int .i64 a1_1] 26 (0, 0)) zae4 hb)
 have n4_ := Aside0.mk (below_step zae6 hb)
 clear HO679
 clear BK672
 clear BK673
 clear HB
 have HO679 := n0_
 have HO684 := n1_
 have BK672 := n2_
 have BK673 := n3_
 have HB := n4_
 clear n0_ n1_ n2_ n3_ n4_
 (try clear hb)
 (try clear hb2)
 (try clear hk)
 (try clear hi)
 (try clear ho0)
 (try clear hna_)
 (try clear hnb_)
 obtain ⟨Ao32, co32, eo32⟩ := Kd.R_slice HO679.out
 (first | subst eo32 | (injection eo32 with f1_ f2_ f3_; have f4_ := f1_.symm; have f5_ := f3_.symm; clear f1_ f2_ f3_; subst f4_; subst f5_))
 obtain ⟨Ao33, co33, eo33⟩ := Kd.R_slice HO684.out
 (first | subst eo33 | (injection eo33 with f1_ f2_ f3_; have f4_ := f1_.symm; have f5_ := f3_.symm; clear f1_ f2_ f3_; subst f4_; subst f5_))
 refine hK.out _ _ ⟨(blk_cell BK672.out 0).trans rfl, (blk_cell BK672.out 1).trans rfl, (blk_cell BK672.out 2).trans rfl, (blk_cell BK673.out 0).trans rfl, (blk_cell BK673.out 1).trans rfl⟩ (fun hHeld => ?_)
 clear hK K
 refine norm_ (a' := ?_) ?_ ?_
 rotate_left
 ·show Act.put _ (some 33) _ = _
  simp only [Act.put, List.setIfInBounds_toArray, List.set_cons_zero, List.set_cons_succ, i64_w, i32_w]
  rfl
 refine one_ (i := 6) (N := some 34) #[true, true, true, true, true, true, true, false, false, false, false, false] rfl rfl (one_of HT_.out (by kernel_rfl)) (by decide) (fun K hK => ?_)
 refine goes_ Try.func29 (by kernel_rfl) rfl #[.agg #[.int .i64 t675, .int .i64 t676, .slice Ao32 t677.length co32], .agg #[.int .i64 t680, .int .i64 t681], .slice Ao33 t682.length co33] (by rfl) rfl rfl zae3 ?_
 with_reducible refine (spec_NumbersOfWalk.calls k t675 t676 _ _ t677 t680 t681 _ _ t682 t685 t688 _ ?side1 ?side2 ?side3 ?side4 A17.out).mono ?_
 (case side1 => repeat (first | exact (Kd.R_reads' HO679.out).2.2 | (with_reducible refine Kd.C_alloc ?_ _) | (with_reducible refine Kd.C_drewN ?_ _) | (with_reducible refine Kd.C_drew ?_)))
 (case side2 => exact (Kd.R_reads' HO679.out).2.1)
 (case side3 => repeat (first | exact (Kd.R_reads' HO684.out).2.2 | (with_reducible refine Kd.C_alloc ?_ _) | (with_reducible refine Kd.C_drewN ?_ _) | (with_reducible refine Kd.C_drew ?_)))
 (case side4 => exact (Kd.R_reads' HO684.out).2.1)
 rintro e w34 ⟨v686, rfl, ho0, hb⟩
 refine ⟨_, rfl, ?_⟩
 have n0_ := Aside0.mk (Kd.R_elder' zae16 (Kd.R_base ho0) hb)
 have n1_ := Aside0.mk (Kd.R_elder' zae18 (Kd.R_base ho0) hb)
 have n2_ := Aside0.mk (Kd.R_lower (Kd.R_new' (Kd.R_new' ho0 (Kd.R_lt zae16)) (Kd.R_lt zae18)) (below_size zae6))
 have n3_ := Aside0.mk (blk_below (g := gb672) (o := .cells #[.int .i64 a0_0, .int .i64 a0_1, .slice A0_2 l0_2.length c0_2] 24 (0, 0)) zae2 hb)
 have n4_ := Aside0.mk (blk_below (g := gb673) (o := .cells #[.int .i64 a1_0, .int .i64 a1_1] 26 (0, 0)) zae4 hb)
 have n5_ := Aside0.mk (below_step zae6 hb)
 clear HO679
 clear HO684
 clear BK672
 clear BK673
 clear HB
 have HO679 := n0_
 have HO684 := n1_
 have HO687 := n2_
 have BK672 := n3_
 have BK673 := n4_
 have HB := n5_
 clear n0_ n1_ n2_ n3_ n4_ n5_
 (try clear hb)
 (try clear hb2)
 (try clear hk)
 (try clear hi)
 (try clear ho0)
 (try clear hna_)
 (try clear hnb_)
 refine hK.out _ _ ⟨(blk_cell BK672.out 0).trans rfl, (blk_cell BK672.out 1).trans rfl, (blk_cell BK672.out 2).trans rfl, (blk_cell BK673.out 0).trans rfl, (blk_cell BK673.out 1).trans rfl⟩ (fun hHeld => ?_)
 clear hK K
 refine norm_ (a' := ?_) ?_ ?_
 rotate_left
 ·show Act.put _ (some 34) _ = _
  simp only [Act.put, List.setIfInBounds_toArray, List.set_cons_zero, List.set_cons_succ, i64_w, i32_w]
  rfl
 refine pure_ (i := 7) (N := some 27) (v := ?_) (a' := ?_) #[true, true, true, true, true, true, true, true, false, false, false, false] rfl rfl (any_of HT_.out (by kernel_rfl)) (fun _ _ _ h => h) (Or.inl ⟨by rfl, ?_⟩) ?_ ?_
 rotate_left
 ·intro w'
  go_simp
  with_reducible rfl
 rotate_left
 ·simp only [Act.put, List.setIfInBounds_toArray, List.set_cons_zero, List.set_cons_succ, i64_w, i32_w]
  rfl
 refine pure_ (i := 8) (N := some 35) (v := ?_) (a' := ?_) #[true, true, true, true, true, true, true, true, true, false, false, false] rfl rfl (any_of HT_.out (by kernel_rfl)) (fun _ _ _ h => h) (Or.inl ⟨by rfl, ?_⟩) ?_ ?_
 rotate_left
 ·intro w'
  go_simp
  with_reducible rfl
 rotate_left
 ·simp only [Act.put, List.setIfInBounds_toArray, List.set_cons_zero, List.set_cons_succ, i64_w, i32_w]
  rfl
 refine pure_ (i := 9) (N := some 36) (v := ?_) (a' := ?_) #[true, true, true, true, true, true, true, true, true, true, false, false] rfl rfl (any_of HT_.out (by kernel_rfl)) (fun _ _ _ h => h) (Or.inl ⟨by rfl, ?_⟩) ?_ ?_
 rotate_left
 ·intro w'
  go_simp
  with_reducible rfl
 rotate_left
 ·simp only [Act.put, List.setIfInBounds_toArray, List.set_cons_zero, List.set_cons_succ, i64_w, i32_w]
  rfl
 refine pure_ (i := 10) (N := some 8) (v := ?_) (a' := ?_) #[true, true, true, true, true, true, true, true, true, true, true, false] rfl rfl (any_of HT_.out (by kernel_rfl)) (fun _ _ _ h => h) (Or.inl ⟨by rfl, ?_⟩) ?_ ?_
 rotate_left
 ·intro w'
  go_simp
  with_reducible rfl
 rotate_left
 ·simp only [Act.put, List.setIfInBounds_toArray, List.set_cons_zero, List.set_cons_succ, i64_w, i32_w]
  rfl
 refine pure_ (i := 11) (N := some 9) (v := ?_) (a' := ?_) #[true, true, true, true, true, true, true, true, true, true, true, true] rfl rfl (any_of HT_.out (by kernel_rfl)) (fun _ _ _ h => h) (Or.inl ⟨by rfl, ?_⟩) ?_ ?_
 rotate_left
 ·intro w'
  go_simp
  with_reducible rfl
 rotate_left
 ·simp only [Act.put, List.setIfInBounds_toArray, List.set_cons_zero, List.set_cons_succ, i64_w, i32_w]
  rfl
 refine done_ (done_of HT_.out (by kernel_rfl)) ?_
 have hcz35_0 : w34.cell? ⟨gb672, 0, none⟩ = some (.int .i64 a0_0) := (blk_cell BK672.out 0).trans rfl
 have hcz35_1 : w34.cell? ⟨gb672, 1, none⟩ = some (.int .i64 a0_1) := (blk_cell BK672.out 1).trans rfl
 have hcz35_2 : w34.cell? ⟨gb672, 2, none⟩ = some (.slice A0_2 l0_2.length c0_2) := (blk_cell BK672.out 2).trans rfl
 have hfz35_0 := blk_frozen BK672.out 0
 have hfz35_1 := blk_frozen BK672.out 1
 have hfz35_2 := blk_frozen BK672.out 2
 try go_wp2_with (first | ((with_reducible refine gate_callee (f := 17) rfl ?_); refine goesL_ (some 38) rfl rfl Try.func17 (by kernel_rfl) rfl #[.agg #[.int .i64 a0_0, .int .i64 a0_1, .slice A0_2 l0_2.length c0_2]] rfl zae3 ?_; (with_reducible refine (laws_toBoard.calls k a0_0 a0_1 _ _ l0_2 t689 t690 t691 _ ?side1 ?side2 A18.out).mono ?_); (case side1 => exact zae13); (case side2 => exact HC0_2.out); rintro e w36 ⟨v692, rfl, ho0, hb⟩; refine ⟨_, rfl, ?_⟩; have n0_ := Aside0.mk (Kd.R_elder' zae16 (Kd.R_base ho0) hb); have n1_ := Aside0.mk (Kd.R_elder' zae18 (Kd.R_base ho0) hb); have n2_ := Aside0.mk (Kd.R_elder' zae20 (Kd.R_base ho0) hb); have n3_ := Aside0.mk (Kd.R_lower (Kd.R_new' (Kd.R_new' (Kd.R_new' ho0 (Kd.R_lt zae16)) (Kd.R_lt zae18)) (Kd.R_lt zae20)) (below_size zae6)); have n4_ := Aside0.mk (blk_below (g := gb672) (o := .cells #[.int .i64 a0_0, .int .i64 a0_1, .slice A0_2 l0_2.length c0_2] 24 (0, 0)) zae2 hb); have n5_ := Aside0.mk (blk_below (g := gb673) (o := .cells #[.int .i64 a1_0, .int .i64 a1_1] 26 (0, 0)) zae4 hb); have n6_ := Aside0.mk (below_step zae6 hb); clear HO679; clear HO684; clear HO687; clear BK672; clear BK673; clear HB; have HO679 := n0_; have HO684 := n1_; have HO687 := n2_; have HO693 := n3_; have BK672 := n4_; have BK673 := n5_; have HB := n6_; clear n0_ n1_ n2_ n3_ n4_ n5_ n6_; (try clear hb); (try clear hb2); (try clear hk); (try clear hi); (try clear ho0); (try clear hna_); (try clear hnb_)) | ((with_reducible refine gate_dst (N := 10) rfl ?_); refine box_event ?hg (N := 10) ?hd (cs := #[.int .i64 0, .int .i64 0, .slice none 0 0]) (t := 30) ?hr ?_; (case hd => rfl); (case hg => rfl); (case hr => first | (go_simp; done) | (go_simp; rfl)); intro gb694 hg w37 hbox hb; have n0_ := Aside0.mk (Kd.R_below zae16 hb); have n1_ := Aside0.mk (Kd.R_below zae18 hb); have n2_ := Aside0.mk (Kd.R_below zae20 hb); have n3_ := Aside0.mk (Kd.R_below zae31 hb); have n4_ := Aside0.mk (blk_below (g := gb672) (o := .cells #[.int .i64 a0_0, .int .i64 a0_1, .slice A0_2 l0_2.length c0_2] 24 (0, 0)) zae2 hb); have n5_ := Aside0.mk (blk_below (g := gb673) (o := .cells #[.int .i64 a1_0, .int .i64 a1_1] 26 (0, 0)) zae4 hb); have n6_ := Aside0.mk (below_step zae6 hb); have n7_ := Aside0.mk (hbox); have n8_ := Aside0.mk ((by rw [hg]; exact (below_size zae6) : w.heap.size ≤ gb694)); have n9_ := Aside0.mk ((by rw [hg]; exact (below_size zae6) : w.heap.size ≤ gb694)); have n10_ := Aside0.mk ((zae52 : gb672 ≠ gb694)); have n11_ := Aside0.mk ((zae53 : gb694 ≠ gb672)); have n12_ := Aside0.mk ((by rw [hg]; exact Nat.ne_of_lt (blk_lt (g := gb673) (o := .cells #[.int .i64 a1_0, .int .i64 a1_1] 26 (0, 0)) zae4) : gb673 ≠ gb694)); have n13_ := Aside0.mk ((by rw [hg]; exact Nat.ne_of_gt (blk_lt (g := gb673) (o := .cells #[.int .i64 a1_0, .int .i64 a1_1] 26 (0, 0)) zae4) : gb694 ≠ gb673)); clear HO679; clear HO684; clear HO687; clear HO693; clear BK672; clear BK673; clear HB; have HO679 := n0_; have HO684 := n1_; have HO687 := n2_; have HO693 := n3_; have BK672 := n4_; have BK673 := n5_; have HB := n6_; have BK694 := n7_; have GW694 := n8_; have GE694 := n9_; have NB672_694 := n10_; have NB694_672 := n11_; have NB673_694 := n12_; have NB694_673 := n13_; clear n0_ n1_ n2_ n3_ n4_ n5_ n6_ n7_ n8_ n9_ n10_ n11_ n12_ n13_; clear hb hbox hg; have hnb38 := NB694_672.out; have hnc38 := NB672_694.out; have hnb39 := NB694_673.out; have hnc39 := NB673_694.out; have hcz40_0 : w37.cell? ⟨gb694, 0, none⟩ = some (.int .i64 0) := (blk_cell BK694.out 0).trans rfl; have hcz40_1 : w37.cell? ⟨gb694, 1, none⟩ = some (.int .i64 0) := (blk_cell BK694.out 1).trans rfl; have hcz40_2 : w37.cell? ⟨gb694, 2, none⟩ = some (.slice none 0 0) := (blk_cell BK694.out 2).trans rfl; have hfz40_0 := blk_frozen BK694.out 0; have hfz40_1 := blk_frozen BK694.out 1; have hfz40_2 := blk_frozen BK694.out 2; obtain ⟨Ao41, co41, eo41⟩ := Kd.R_slice HO693.out; subst eo41) | ((with_reducible refine gate_callee (f := 19) rfl ?_); refine goesL_ (some 40) rfl rfl Try.func19 (by kernel_rfl) rfl #[.slice A2 l2.length c2] rfl zae3 ?_; (with_reducible refine (laws_toIntS.calls k _ _ l2 t695 _ ?side1 ?side2 A19.out).mono ?_); (case side1 => exact Kd.C_below HR2.out zae1); (case side2 => exact HC2.out); rintro e w42 ⟨v696, rfl, ho0, hb⟩; refine ⟨_, rfl, ?_⟩; have n0_ := Aside0.mk (Kd.R_elder' zae27 (Kd.R_base ho0) hb); have n1_ := Aside0.mk (Kd.R_elder' zae26 (Kd.R_base ho0) hb); have n2_ := Aside0.mk (Kd.R_elder' zae25 (Kd.R_base ho0) hb); have n3_ := Aside0.mk (Kd.R_elder' zae24 (Kd.R_base ho0) hb); have n4_ := Aside0.mk (Kd.R_lower (Kd.R_new' (Kd.R_new' (Kd.R_new' (Kd.R_new' ho0 (Kd.R_lt zae27)) (Kd.R_lt zae26)) (Kd.R_lt zae25)) (Kd.R_lt zae24)) (below_size zae1)); have n5_ := Aside0.mk (blk_below (g := gb672) (o := .cells #[.int .i64 a0_0, .int .i64 a0_1, .slice A0_2 l0_2.length c0_2] 24 (0, 0)) (by (with_reducible repeat (first | refine blk_drewN ?_ _ | refine blk_drew ?_ | refine blk_alloc ?_ _)); refine blk_far ?_ NB672_694.out _; (with_reducible repeat (first | refine blk_drewN ?_ _ | refine blk_drew ?_ | refine blk_alloc ?_ _)); refine blk_far ?_ NB672_694.out _; (with_reducible repeat (first | refine blk_drewN ?_ _ | refine blk_drew ?_ | refine blk_alloc ?_ _)); refine blk_far ?_ NB672_694.out _; (with_reducible repeat (first | refine blk_drewN ?_ _ | refine blk_drew ?_ | refine blk_alloc ?_ _)); exact BK672.out) hb); have n6_ := Aside0.mk (blk_below (g := gb673) (o := .cells #[.int .i64 a1_0, .int .i64 a1_1] 26 (0, 0)) (by (with_reducible repeat (first | refine blk_drewN ?_ _ | refine blk_drew ?_ | refine blk_alloc ?_ _)); refine blk_far ?_ NB673_694.out _; (with_reducible repeat (first | refine blk_drewN ?_ _ | refine blk_drew ?_ | refine blk_alloc ?_ _)); refine blk_far ?_ NB673_694.out _; (with_reducible repeat (first | refine blk_drewN ?_ _ | refine blk_drew ?_ | refine blk_alloc ?_ _)); refine blk_far ?_ NB673_694.out _; (with_reducible repeat (first | refine blk_drewN ?_ _ | refine blk_drew ?_ | refine blk_alloc ?_ _)); exact BK673.out) hb); have n7_ := Aside0.mk (blk_below (g := gb694) (o := .cells #[.int .i64 t689, .int .i64 t690, .slice Ao41 t691.length co41] 30 (0, 0)) (by (with_reducible repeat (first | refine blk_drewN ?_ _ | refine blk_drew ?_ | refine blk_alloc ?_ _)); refine blk_put (cs := #[.int .i64 t689, .int .i64 t690, .slice none 0 0]) ?_ 2 _ rfl; (with_reducible repeat (first | refine blk_drewN ?_ _ | refine blk_drew ?_ | refine blk_alloc ?_ _)); refine blk_put (cs := #[.int .i64 t689, .int .i64 0, .slice none 0 0]) ?_ 1 _ rfl; (with_reducible repeat (first | refine blk_drewN ?_ _ | refine blk_drew ?_ | refine blk_alloc ?_ _)); refine blk_put (cs := #[.int .i64 0, .int .i64 0, .slice none 0 0]) ?_ 0 _ rfl; (with_reducible repeat (first | refine blk_drewN ?_ _ | refine blk_drew ?_ | refine blk_alloc ?_ _)); exact BK694.out) hb); have n8_ := Aside0.mk (below_step zae1 hb); clear HO679; clear HO684; clear HO687; clear HO693; clear BK672; clear BK673; clear BK694; clear HB; have HO679 := n0_; have HO684 := n1_; have HO687 := n2_; have HO693 := n3_; have HO697 := n4_; have BK672 := n5_; have BK673 := n6_; have BK694 := n7_; have HB := n8_; clear n0_ n1_ n2_ n3_ n4_ n5_ n6_ n7_ n8_; (try clear hb); (try clear hb2); (try clear hk); (try clear hi); (try clear ho0); (try clear hna_); (try clear hnb_)))
 have n0_ := Aside0.mk (Kd.R_drew HO679.out)
 have n1_ := Aside0.mk (Kd.R_drew HO684.out)
 have n2_ := Aside0.mk (Kd.R_drew HO687.out)
 have n3_ := Aside0.mk (Kd.R_drew HO693.out)
 have n4_ := Aside0.mk (Kd.R_drew HO697.out)
 have n5_ := Aside0.mk (blk_drew BK672.out)
 have n6_ := Aside0.mk (blk_drew BK673.out)
 have n7_ := Aside0.mk (blk_drew BK694.out)
 have n8_ := Aside0.mk (below_drew1 HB.out)
 clear HO679
 clear HO684
 clear HO687
 clear HO693
 clear HO697
 clear BK672
 clear BK673
 clear BK694
 clear HB
 have HO679 := n0_
 have HO684 := n1_
 have HO687 := n2_
 have HO693 := n3_
 have HO697 := n4_
 have BK672 := n5_
 have BK673 := n6_
 have BK694 := n7_
 have HB := n8_
 clear n0_ n1_ n2_ n3_ n4_ n5_ n6_ n7_ n8_
 refine start_ (n := 10) (S := fun w' => w'.cell? ⟨gb694, 0, none⟩ = some (.int .i64 t689) ∧ w'.cell? ⟨gb694, 1, none⟩ = some (.int .i64 t690) ∧ w'.cell? ⟨gb694, 2, none⟩ = some (.slice Ao41 t691.length co41) ∧ w'.cell? ⟨gb673, 0, none⟩ = some (.int .i64 a1_0) ∧ w'.cell? ⟨gb673, 1, none⟩ = some (.int .i64 a1_1)) (ds := []) #[false, false, false, false, false, false, false, false, false, false] (by kernel_rfl) rfl rfl ⟨(blk_cell BK694.out 0).trans rfl, (blk_cell BK694.out 1).trans rfl, (blk_cell BK694.out 2).trans rfl, (blk_cell BK673.out 0).trans rfl, (blk_cell BK673.out 1).trans rfl⟩ (fun hHeld => ?_); refine with_tabW laws_FnExactNumbersOfWalk.tab10 laws_FnExactNumbersOfWalk.bits10 (fun HT_ HW_ => ?_)
 generalize w42.drew = w43 at HO679 HO684 HO687 HO693 HO697 BK672 BK673 BK694 HB hHeld ⊢
 refine pure_ (i := 3) (N := some 45) (v := ?_) (a' := ?_) #[false, false, false, true, false, false, false, false, false, false] rfl rfl (any_of HT_.out (by kernel_rfl)) (fun _ _ _ h => h) (Or.inl ⟨by rfl, ?_⟩) ?_ ?_
 rotate_left
 ·intro w'
  go_simp
  with_reducible rfl
 rotate_left
 ·simp only [Act.put, List.setIfInBounds_toArray, List.set_cons_zero, List.set_cons_succ, i64_w, i32_w]
  rfl
 refine take_ (i := 0) (N := some 42) (v := ?_) (a' := ?_) #[true, false, false, true, false, false, false, false, false, false] rfl rfl (take_ofW HT_.out HW_.out (by kernel_rfl)) (fun _ _ _ h => h) (Or.inl ⟨by rfl, ?_⟩) hHeld ?_ ?_
 rotate_left
 ·rintro w' ⟨s0, s1, s2, s3, s4⟩
  go_simp
  with_reducible rfl
 rotate_left
 ·simp only [Act.put, List.setIfInBounds_toArray, List.set_cons_zero, List.set_cons_succ, i64_w, i32_w]
  rfl
 refine take_ (i := 1) (N := some 43) (v := ?_) (a' := ?_) #[true, true, false, true, false, false, false, false, false, false] rfl rfl (take_ofW HT_.out HW_.out (by kernel_rfl)) (fun _ _ _ h => h) (Or.inl ⟨by rfl, ?_⟩) hHeld ?_ ?_
 rotate_left
 ·rintro w' ⟨s0, s1, s2, s3, s4⟩
  go_simp
  with_reducible rfl
 rotate_left
 ·simp only [Act.put, List.setIfInBounds_toArray, List.set_cons_zero, List.set_cons_succ, i64_w, i32_w]
  rfl
 refine one_ (i := 2) (N := some 44) #[true, true, true, true, false, false, false, false, false, false] rfl rfl (one_of HT_.out (by kernel_rfl)) (by decide) (fun K hK => ?_)
 refine goes_ Try.func18 (by kernel_rfl) rfl #[.agg #[.int .i64 a1_0, .int .i64 a1_1]] (by rfl) rfl rfl zae3 ?_
 with_reducible refine (laws_toLeaper.calls a1_0 a1_1 t698 t699 _ A20.out).mono ?_
 rintro e w44 ⟨rfl, hb⟩
 refine ⟨_, rfl, ?_⟩
 have n0_ := Aside0.mk (Kd.R_below zae16 hb)
 have n1_ := Aside0.mk (Kd.R_below zae18 hb)
 have n2_ := Aside0.mk (Kd.R_below zae20 hb)
 have n3_ := Aside0.mk (Kd.R_below zae31 hb)
 have n4_ := Aside0.mk (Kd.R_below zae36 hb)
 have n5_ := Aside0.mk (blk_below (g := gb672) (o := .cells #[.int .i64 a0_0, .int .i64 a0_1, .slice A0_2 l0_2.length c0_2] 24 (0, 0)) zae2 hb)
 have n6_ := Aside0.mk (blk_below (g := gb673) (o := .cells #[.int .i64 a1_0, .int .i64 a1_1] 26 (0, 0)) zae4 hb)
 have n7_ := Aside0.mk (blk_below (g := gb694) (o := .cells #[.int .i64 t689, .int .i64 t690, .slice Ao41 t691.length co41] 30 (0, 0)) zae7 hb)
 have n8_ := Aside0.mk (below_step zae1 hb)
 clear HO679
 clear HO684
 clear HO687
 clear HO693
 clear HO697
 clear BK672
 clear BK673
 clear BK694
 clear HB
 have HO679 := n0_
 have HO684 := n1_
 have HO687 := n2_
 have HO693 := n3_
 have HO697 := n4_
 have BK672 := n5_
 have BK673 := n6_
 have BK694 := n7_
 have HB := n8_
 clear n0_ n1_ n2_ n3_ n4_ n5_ n6_ n7_ n8_
 (try clear hb)
 (try clear hb2)
 (try clear hk)
 (try clear hi)
 (try clear hna_)
 (try clear hnb_)
 obtain ⟨Ao45, co45, eo45⟩ := Kd.R_slice HO697.out
 (first | subst eo45 | (injection eo45 with f1_ f2_ f3_; have f4_ := f1_.symm; have f5_ := f3_.symm; clear f1_ f2_ f3_; subst f4_; subst f5_))
 refine hK.out _ _ ⟨(blk_cell BK694.out 0).trans rfl, (blk_cell BK694.out 1).trans rfl, (blk_cell BK694.out 2).trans rfl, (blk_cell BK673.out 0).trans rfl, (blk_cell BK673.out 1).trans rfl⟩ (fun hHeld => ?_)
 clear hK K
 refine norm_ (a' := ?_) ?_ ?_
 rotate_left
 ·show Act.put _ (some 44) _ = _
  simp only [Act.put, List.setIfInBounds_toArray, List.set_cons_zero, List.set_cons_succ, i64_w, i32_w]
  rfl
 refine one_ (i := 4) (N := some 46) #[true, true, true, true, true, false, false, false, false, false] rfl rfl (one_of HT_.out (by kernel_rfl)) (by decide) (fun K hK => ?_)
 refine goes_ Try.func30 (by kernel_rfl) rfl #[.agg #[.int .i64 t689, .int .i64 t690, .slice Ao41 t691.length co41], .agg #[.int .i64 t698, .int .i64 t699], .slice Ao45 t695.length co45] (by rfl) rfl rfl zae3 ?_
 with_reducible refine (impl_NumbersOfWalk.calls k t689 t690 _ _ t691 t698 t699 _ _ t695 t700 t703 _ ?side1 ?side2 ?side3 ?side4 A21.out).mono ?_
 (case side1 => repeat (first | exact (Kd.R_reads' HO693.out).2.2 | (with_reducible refine Kd.C_alloc ?_ _) | (with_reducible refine Kd.C_drewN ?_ _) | (with_reducible refine Kd.C_drew ?_)))
 (case side2 => exact (Kd.R_reads' HO693.out).2.1)
 (case side3 => repeat (first | exact (Kd.R_reads' HO697.out).2.2 | (with_reducible refine Kd.C_alloc ?_ _) | (with_reducible refine Kd.C_drewN ?_ _) | (with_reducible refine Kd.C_drew ?_)))
 (case side4 => exact (Kd.R_reads' HO697.out).2.1)
 rintro e w46 ⟨v701, rfl, ho0, hb⟩
 refine ⟨_, rfl, ?_⟩
 have n0_ := Aside0.mk (Kd.R_elder' zae16 (Kd.R_base ho0) hb)
 have n1_ := Aside0.mk (Kd.R_elder' zae18 (Kd.R_base ho0) hb)
 have n2_ := Aside0.mk (Kd.R_elder' zae20 (Kd.R_base ho0) hb)
 have n3_ := Aside0.mk (Kd.R_elder' zae31 (Kd.R_base ho0) hb)
 have n4_ := Aside0.mk (Kd.R_elder' zae36 (Kd.R_base ho0) hb)
 have n5_ := Aside0.mk (Kd.R_lower (Kd.R_new' (Kd.R_new' (Kd.R_new' (Kd.R_new' (Kd.R_new' ho0 (Kd.R_lt zae16)) (Kd.R_lt zae18)) (Kd.R_lt zae20)) (Kd.R_lt zae31)) (Kd.R_lt zae36)) (below_size zae1))
 have n6_ := Aside0.mk (blk_below (g := gb672) (o := .cells #[.int .i64 a0_0, .int .i64 a0_1, .slice A0_2 l0_2.length c0_2] 24 (0, 0)) zae2 hb)
 have n7_ := Aside0.mk (blk_below (g := gb673) (o := .cells #[.int .i64 a1_0, .int .i64 a1_1] 26 (0, 0)) zae4 hb)
 have n8_ := Aside0.mk (blk_below (g := gb694) (o := .cells #[.int .i64 t689, .int .i64 t690, .slice Ao41 t691.length co41] 30 (0, 0)) zae7 hb)
 have n9_ := Aside0.mk (below_step zae1 hb)
 clear HO679
 clear HO684
 clear HO687
 clear HO693
 clear HO697
 clear BK672
 clear BK673
 clear BK694
 clear HB
 have HO679 := n0_
 have HO684 := n1_
 have HO687 := n2_
 have HO693 := n3_
 have HO697 := n4_
 have HO702 := n5_
 have BK672 := n6_
 have BK673 := n7_
 have BK694 := n8_
 have HB := n9_
 clear n0_ n1_ n2_ n3_ n4_ n5_ n6_ n7_ n8_ n9_
 (try clear hb)
 (try clear hb2)
 (try clear hk)
 (try clear hi)
 (try clear ho0)
 (try clear hna_)
 (try clear hnb_)
 refine hK.out _ _ ⟨(blk_cell BK694.out 0).trans rfl, (blk_cell BK694.out 1).trans rfl, (blk_cell BK694.out 2).trans rfl, (blk_cell BK673.out 0).trans rfl, (blk_cell BK673.out 1).trans rfl⟩ (fun hHeld => ?_)
 clear hK K
 refine norm_ (a' := ?_) ?_ ?_
 rotate_left
 ·show Act.put _ (some 46) _ = _
  simp only [Act.put, List.setIfInBounds_toArray, List.set_cons_zero, List.set_cons_succ, i64_w, i32_w]
  rfl
 refine pure_ (i := 5) (N := some 41) (v := ?_) (a' := ?_) #[true, true, true, true, true, true, false, false, false, false] rfl rfl (any_of HT_.out (by kernel_rfl)) (fun _ _ _ h => h) (Or.inl ⟨by rfl, ?_⟩) ?_ ?_
 rotate_left
 ·intro w'
  go_simp
  with_reducible rfl
 rotate_left
 ·simp only [Act.put, List.setIfInBounds_toArray, List.set_cons_zero, List.set_cons_succ, i64_w, i32_w]
  rfl
 refine pure_ (i := 6) (N := some 47) (v := ?_) (a' := ?_) #[true, true, true, true, true, true, true, false, false, false] rfl rfl (any_of HT_.out (by kernel_rfl)) (fun _ _ _ h => h) (Or.inl ⟨by rfl, ?_⟩) ?_ ?_
 rotate_left
 ·intro w'
  go_simp
  with_reducible rfl
 rotate_left
 ·simp only [Act.put, List.setIfInBounds_toArray, List.set_cons_zero, List.set_cons_succ, i64_w, i32_w]
  rfl
 refine pure_ (i := 7) (N := some 48) (v := ?_) (a' := ?_) #[true, true, true, true, true, true, true, true, false, false] rfl rfl (any_of HT_.out (by kernel_rfl)) (fun _ _ _ h => h) (Or.inl ⟨by rfl, ?_⟩) ?_ ?_
 rotate_left
 ·intro w'
  go_simp
  with_reducible rfl
 rotate_left
 ·simp only [Act.put, List.setIfInBounds_toArray, List.set_cons_zero, List.set_cons_succ, i64_w, i32_w]
  rfl
 refine pure_ (i := 8) (N := some 12) (v := ?_) (a' := ?_) #[true, true, true, true, true, true, true, true, true, false] rfl rfl (any_of HT_.out (by kernel_rfl)) (fun _ _ _ h => h) (Or.inl ⟨by rfl, ?_⟩) ?_ ?_
 rotate_left
 ·intro w'
  go_simp
  with_reducible rfl
 rotate_left
 ·simp only [Act.put, List.setIfInBounds_toArray, List.set_cons_zero, List.set_cons_succ, i64_w, i32_w]
  rfl
 refine pure_ (i := 9) (N := some 13) (v := ?_) (a' := ?_) #[true, true, true, true, true, true, true, true, true, true] rfl rfl (any_of HT_.out (by kernel_rfl)) (fun _ _ _ h => h) (Or.inl ⟨by rfl, ?_⟩) ?_ ?_
 rotate_left
 ·intro w'
  go_simp
  with_reducible rfl
 rotate_left
 ·simp only [Act.put, List.setIfInBounds_toArray, List.set_cons_zero, List.set_cons_succ, i64_w, i32_w]
  rfl
 refine done_ (done_of HT_.out (by kernel_rfl)) ?_
 go_upto_region 11 with (fail)
 go_cut [57] (fun v57 wc => ∃ (kq : Nat) (x57_21 : Bool), v57 = .bool x57_21 ∧ Aside0 (laws_FnExactNumbersOfWalk.j0 kq l2 t685 t688 t695 t700 t703 x57_21 a0_0 a0_1 l0_2 a1_0 a1_1 t689 t690 t691 = some r) ∧ Aside0 (kq ≤ k) ∧ Aside0 (Kd.R (Kd.int .i64) 3 wc w.heap.size (fun k_ => some k_ ≠ ((.slice Ao45 t695.length co45) : Value).ownBlock ∧ some k_ ≠ (v701 : Value).ownBlock ∧ some k_ ≠ ((.slice Ao41 t691.length co41) : Value).ownBlock) v686 t685) ∧ Aside0 (Kd.R (Kd.int .i64) 3 wc w.heap.size (fun k_ => some k_ ≠ (v686 : Value).ownBlock ∧ some k_ ≠ (v701 : Value).ownBlock ∧ some k_ ≠ ((.slice Ao41 t691.length co41) : Value).ownBlock) (.slice Ao45 t695.length co45) t695) ∧ Aside0 (Kd.R (Kd.int .i64) 3 wc w.heap.size (fun k_ => some k_ ≠ (v686 : Value).ownBlock ∧ some k_ ≠ ((.slice Ao45 t695.length co45) : Value).ownBlock ∧ some k_ ≠ ((.slice Ao41 t691.length co41) : Value).ownBlock) v701 t700) ∧ Aside0 (Kd.R (Kd.int .i64) 3 wc w.heap.size (fun k_ => some k_ ≠ (v686 : Value).ownBlock ∧ some k_ ≠ ((.slice Ao45 t695.length co45) : Value).ownBlock ∧ some k_ ≠ (v701 : Value).ownBlock) (.slice Ao41 t691.length co41) t691) ∧ Aside0 (wc.heap[gb672]? = some (.cells #[.int .i64 a0_0, .int .i64 a0_1, (.slice A0_2 l0_2.length c0_2)] 24 (0, 0))) ∧ Aside0 (wc.heap[gb673]? = some (.cells #[.int .i64 a1_0, .int .i64 a1_1] 26 (0, 0))) ∧ Aside0 (wc.heap[gb694]? = some (.cells #[.int .i64 t689, .int .i64 t690, (.slice Ao41 t691.length co41)] 30 (0, 0))) ∧ Aside0 (Below w.heap.size w wc))
 case first =>
  have H := HC22.out
  clear HC22
  replace H := Option.bind_eq_some_iff.mp H
  obtain ⟨t704, A470, H⟩ := H
  replace H : (if t704 = true then (laws_FnExactNumbersOfWalk.j0 k l2 t685 t688 t695 t700 t703 (t703 != t688) a0_0 a0_1 l0_2 a1_0 a1_1 t689 t690 t691) else (laws_FnExactNumbersOfWalk.j0 k l2 t685 t688 t695 t700 t703 true a0_0 a0_1 l0_2 a1_0 a1_1 t689 t690 t691)) = some r := H
  have A47 := Aside0.mk A470
  clear A470
  by_cases c48 : t704 = true
  ·subst c48
   have H1 : (laws_FnExactNumbersOfWalk.j0 k l2 t685 t688 t695 t700 t703 (t703 != t688) a0_0 a0_1 l0_2 a1_0 a1_1 t689 t690 t691) = some r := by rw [if_pos rfl] at H; exact H
   clear H
   have H := H1
   clear H1
   have H' := Aside0.mk H
   clear H
   obtain ⟨Ao49, co49, eo49⟩ := Kd.R_slice HO702.out
   subst eo49
   obtain ⟨Ao50, co50, eo50⟩ := Kd.R_slice HO687.out
   subst eo50
   go_wp2_with (first | ((with_reducible refine gate_callee (f := 22) rfl ?_); refine goesL_ (some 51) rfl rfl Try.func22 (by kernel_rfl) rfl #[.slice Ao49 t700.length co49, .slice Ao50 t685.length co50] rfl zae3 ?_; (with_reducible refine (laws_eqIntS.calls k _ _ t700 _ _ t685 true _ ?side1 ?side2 ?side3 ?side4 A47.out).mono ?_); (case side1 => exact zae47); (case side2 => exact (Kd.R_reads' HO702.out).2.1); (case side3 => exact zae48); (case side4 => exact (Kd.R_reads' HO687.out).2.1); rintro e w' ⟨rfl, ⟨nd, rfl⟩⟩; refine ⟨_, rfl, ?_⟩))
   go_meet
   case rel => exact ⟨_, ((t703 != t688)), zae35, H', ⟨by first | omega | exact Nat.le_refl _⟩, ⟨zae43⟩, ⟨zae41⟩, ⟨zae40⟩, ⟨zae42⟩, ⟨zae2⟩, ⟨zae4⟩, ⟨zae7⟩, ⟨zae1⟩⟩
  replace c48 := Bool.eq_false_iff.mpr c48
  subst c48
  have H1 : (laws_FnExactNumbersOfWalk.j0 k l2 t685 t688 t695 t700 t703 true a0_0 a0_1 l0_2 a1_0 a1_1 t689 t690 t691) = some r := by rw [if_neg (show ¬ (false = true) by decide)] at H; exact H
  clear H
  have H := H1
  clear H1
  have H' := Aside0.mk H
  clear H
  obtain ⟨Ao51, co51, eo51⟩ := Kd.R_slice HO702.out
  subst eo51
  obtain ⟨Ao52, co52, eo52⟩ := Kd.R_slice HO687.out
  subst eo52
  go_wp2_with (first | ((with_reducible refine gate_callee (f := 22) rfl ?_); refine goesL_ (some 51) rfl rfl Try.func22 (by kernel_rfl) rfl #[.slice Ao51 t700.length co51, .slice Ao52 t685.length co52] rfl zae3 ?_; (with_reducible refine (laws_eqIntS.calls k _ _ t700 _ _ t685 false _ ?side1 ?side2 ?side3 ?side4 A47.out).mono ?_); (case side1 => exact zae47); (case side2 => exact (Kd.R_reads' HO702.out).2.1); (case side3 => exact zae48); (case side4 => exact (Kd.R_reads' HO687.out).2.1); rintro e w' ⟨rfl, ⟨nd, rfl⟩⟩; refine ⟨_, rfl, ?_⟩))
  go_meet
  case rel => exact ⟨_, (true), zae35, H', ⟨by first | omega | exact Nat.le_refl _⟩, ⟨zae43⟩, ⟨zae41⟩, ⟨zae40⟩, ⟨zae42⟩, ⟨zae2⟩, ⟨zae4⟩, ⟨zae7⟩, ⟨zae1⟩⟩
 case rest =>
  clear HC22
  try clear c1; try clear c2; try clear p2; try clear c3; try clear c4; try clear c4b0; try clear c4b1; try clear c7; try clear c8; try clear c8b0; try clear c11; try clear c15; try clear c17; try clear c18; try clear c19; try clear c22; try clear c25; try clear c29; try clear c30; try clear c38; try clear c39; try clear c48; try clear hcz12_0; try clear hcz12_1; try clear hcz12_2; try clear hcz26_0; try clear hcz26_1; try clear hcz26_2; try clear hcz35_0; try clear hcz35_1; try clear hcz35_2; try clear hcz40_0; try clear hcz40_1; try clear hcz40_2; try clear hfz12_0; try clear hfz12_1; try clear hfz12_2
  try clear hfz26_0; try clear hfz26_1; try clear hfz26_2; try clear hfz35_0; try clear hfz35_1; try clear hfz35_2; try clear hfz40_0; try clear hfz40_1; try clear hfz40_2
  obtain ⟨kq, x57_21, rfl, HA, HJ21, HO_8, HO_11, HO_12, HO_695002, BK672, BK673, BK694, HB⟩ := hcut
  cases kq with
  | zero => exact absurd HA.out (by simp [laws_FnExactNumbersOfWalk.j0])
  | succ kj21 =>
   have H := HA.out
   clear HA
   simp only [laws_FnExactNumbersOfWalk.j0] at H
   by_cases c53 : x57_21 = true
   ·subst c53
    have H1 : (some false) = some r := by rw [if_pos rfl] at H; exact H
    clear H
    have H := H1
    clear H1
    obtain rfl := Option.some.inj H
    go_wp2
    go_ret
    exact ⟨zae17, zae1⟩
   replace c53 := Bool.eq_false_iff.mpr c53
   subst c53
   have H1 : ((laws_toBoard.f kj21 a0_0 a0_1 l0_2).bind fun bt705 => ((laws_eqBoard.f kj21 t689 t690 t691 bt705.1 bt705.2.1 bt705.2.2).bind fun t710 => (if t710 = true then ((laws_toIntS.f kj21 l2).bind fun t711 => ((laws_eqIntS.f kj21 t695 t711).bind fun t714 => (if t714 = true then ((laws_markBoard.f kj21 t689 t690 t691 1).bind fun bt715 => ((laws_markIntS.f kj21 t695 bt715.1).bind fun bt717 => (if bt717.1 < 0 then (laws_FnExactNumbersOfWalk.j1 kj21 l2 t685 t688 t700 true a0_0 a0_1 l0_2 a1_0 a1_1) else ((laws_eqIntS.f kj21 t700 t685).bind fun t719 => (if t719 = true then (laws_FnExactNumbersOfWalk.j1 kj21 l2 t685 t688 t700 (t703 != t688) a0_0 a0_1 l0_2 a1_0 a1_1) else (laws_FnExactNumbersOfWalk.j1 kj21 l2 t685 t688 t700 true a0_0 a0_1 l0_2 a1_0 a1_1)))))) else (some false)))) else (some false)))) = some r := by rw [if_neg (show ¬ (false = true) by decide)] at H; exact H
   clear H
   have H := H1
   clear H1
   replace H := Option.bind_eq_some_iff.mp H
   obtain ⟨⟨t705, t706, t707⟩, A540, H⟩ := H
   replace H : ((laws_eqBoard.f kj21 t689 t690 t691 t705 t706 t707).bind fun t710 => (if t710 = true then ((laws_toIntS.f kj21 l2).bind fun t711 => ((laws_eqIntS.f kj21 t695 t711).bind fun t714 => (if t714 = true then ((laws_markBoard.f kj21 t689 t690 t691 1).bind fun bt715 => ((laws_markIntS.f kj21 t695 bt715.1).bind fun bt717 => (if bt717.1 < 0 then (laws_FnExactNumbersOfWalk.j1 kj21 l2 t685 t688 t700 true a0_0 a0_1 l0_2 a1_0 a1_1) else ((laws_eqIntS.f kj21 t700 t685).bind fun t719 => (if t719 = true then (laws_FnExactNumbersOfWalk.j1 kj21 l2 t685 t688 t700 (t703 != t688) a0_0 a0_1 l0_2 a1_0 a1_1) else (laws_FnExactNumbersOfWalk.j1 kj21 l2 t685 t688 t700 true a0_0 a0_1 l0_2 a1_0 a1_1)))))) else (some false)))) else (some false))) = some r := H
   have A54 := Aside0.mk A540
   clear A540
   replace H := Option.bind_eq_some_iff.mp H
   obtain ⟨t710, A550, H⟩ := H
   replace H : (if t710 = true then ((laws_toIntS.f kj21 l2).bind fun t711 => ((laws_eqIntS.f kj21 t695 t711).bind fun t714 => (if t714 = true then ((laws_markBoard.f kj21 t689 t690 t691 1).bind fun bt715 => ((laws_markIntS.f kj21 t695 bt715.1).bind fun bt717 => (if bt717.1 < 0 then (laws_FnExactNumbersOfWalk.j1 kj21 l2 t685 t688 t700 true a0_0 a0_1 l0_2 a1_0 a1_1) else ((laws_eqIntS.f kj21 t700 t685).bind fun t719 => (if t719 = true then (laws_FnExactNumbersOfWalk.j1 kj21 l2 t685 t688 t700 (t703 != t688) a0_0 a0_1 l0_2 a1_0 a1_1) else (laws_FnExactNumbersOfWalk.j1 kj21 l2 t685 t688 t700 true a0_0 a0_1 l0_2 a1_0 a1_1)))))) else (some false)))) else (some false)) = some r := H
   have A55 := Aside0.mk A550
   clear A550
   by_cases c56 : t710 = true
   rotate_left
   ·replace c56 := Bool.eq_false_iff.mpr c56
    subst c56
    have H1 : (some false) = some r := by rw [if_neg (show ¬ (false = true) by decide)] at H; exact H
    clear H
    have H := H1
    clear H1
    obtain rfl := Option.some.inj H
    try go_wp2
    have n0_ := Aside0.mk (Kd.R_drew HO_8.out)
    have n1_ := Aside0.mk (Kd.R_drew HO_11.out)
    have n2_ := Aside0.mk (Kd.R_drew HO_12.out)
    have n3_ := Aside0.mk (Kd.R_drew HO_695002.out)
    have n4_ := Aside0.mk (blk_drew BK672.out)
    have n5_ := Aside0.mk (blk_drew BK673.out)
    have n6_ := Aside0.mk (blk_drew BK694.out)
    have n7_ := Aside0.mk (below_drew1 HB.out)
    clear HO_8
    clear HO_11
    clear HO_12
    clear HO_695002
    clear BK672
    clear BK673
    clear BK694
    clear HB
    have HO_8 := n0_
    have HO_11 := n1_
    have HO_12 := n2_
    have HO_695002 := n3_
    have BK672 := n4_
    have BK673 := n5_
    have BK694 := n6_
    have HB := n7_
    clear n0_ n1_ n2_ n3_ n4_ n5_ n6_ n7_
    refine start_ (n := 5) (S := fun w' => w'.cell? ⟨gb694, 0, none⟩ = some (.int .i64 t689) ∧ w'.cell? ⟨gb694, 1, none⟩ = some (.int .i64 t690) ∧ w'.cell? ⟨gb694, 2, none⟩ = some (.slice Ao41 t691.length co41) ∧ w'.cell? ⟨gb672, 0, none⟩ = some (.int .i64 a0_0) ∧ w'.cell? ⟨gb672, 1, none⟩ = some (.int .i64 a0_1) ∧ w'.cell? ⟨gb672, 2, none⟩ = some (.slice A0_2 l0_2.length c0_2)) (ds := []) #[false, false, false, false, false] (by kernel_rfl) rfl rfl ⟨(blk_cell BK694.out 0).trans rfl, (blk_cell BK694.out 1).trans rfl, (blk_cell BK694.out 2).trans rfl, (blk_cell BK672.out 0).trans rfl, (blk_cell BK672.out 1).trans rfl, (blk_cell BK672.out 2).trans rfl⟩ (fun hHeld => ?_)
    generalize wc.drew = w120 at HO_8 HO_11 HO_12 HO_695002 BK672 BK673 BK694 HB hHeld ⊢
    refine take_ (i := 0) (N := some 58) (v := ?_) (a' := ?_) #[true, false, false, false, false] rfl rfl (by kernel_rfl) (fun _ _ _ h => h) (Or.inl ⟨by rfl, ?_⟩) hHeld ?_ ?_
    rotate_left
    ·rintro w' ⟨s0, s1, s2, s3, s4, s5⟩
     go_simp
     with_reducible rfl
    rotate_left
    ·simp only [Act.put, List.setIfInBounds_toArray, List.set_cons_zero, List.set_cons_succ, i64_w, i32_w]
     rfl
    refine take_ (i := 1) (N := some 59) (v := ?_) (a' := ?_) #[true, true, false, false, false] rfl rfl (by kernel_rfl) (fun _ _ _ h => h) (Or.inl ⟨by rfl, ?_⟩) hHeld ?_ ?_
    rotate_left
    ·rintro w' ⟨s0, s1, s2, s3, s4, s5⟩
     go_simp
     with_reducible rfl
    rotate_left
    ·simp only [Act.put, List.setIfInBounds_toArray, List.set_cons_zero, List.set_cons_succ, i64_w, i32_w]
     rfl
    refine one_ (i := 2) (N := some 60) #[true, true, true, false, false] rfl rfl (by kernel_rfl) (by decide) (fun K hK => ?_)
    refine goes_ Try.func17 (by kernel_rfl) rfl #[.agg #[.int .i64 a0_0, .int .i64 a0_1, .slice A0_2 l0_2.length c0_2]] (by rfl) rfl rfl zae3 ?_
    with_reducible refine (laws_toBoard.calls kj21 a0_0 a0_1 _ _ l0_2 t705 t706 t707 _ ?side1 ?side2 A54.out).mono ?_
    (case side1 => exact zae13)
    (case side2 => exact HC0_2.out)
    rintro e w121 ⟨v708, rfl, ho0, hb⟩
    refine ⟨_, rfl, ?_⟩
    have n0_ := Aside0.mk (Kd.R_elder' zae10 (Kd.R_base ho0) hb)
    have n1_ := Aside0.mk (Kd.R_elder' zae12 (Kd.R_base ho0) hb)
    have n2_ := Aside0.mk (Kd.R_elder' zae9 (Kd.R_base ho0) hb)
    have n3_ := Aside0.mk (Kd.R_elder' zae8 (Kd.R_base ho0) hb)
    have n4_ := Aside0.mk (Kd.R_lower (Kd.R_new' (Kd.R_new' (Kd.R_new' (Kd.R_new' ho0 (Kd.R_lt zae10)) (Kd.R_lt zae12)) (Kd.R_lt zae9)) (Kd.R_lt zae8)) (below_size zae1))
    have n5_ := Aside0.mk (blk_below (g := gb672) (o := .cells #[.int .i64 a0_0, .int .i64 a0_1, .slice A0_2 l0_2.length c0_2] 24 (0, 0)) zae2 hb)
    have n6_ := Aside0.mk (blk_below (g := gb673) (o := .cells #[.int .i64 a1_0, .int .i64 a1_1] 26 (0, 0)) zae4 hb)
    have n7_ := Aside0.mk (blk_below (g := gb694) (o := .cells #[.int .i64 t689, .int .i64 t690, .slice Ao41 t691.length co41] 30 (0, 0)) zae7 hb)
    have n8_ := Aside0.mk (below_step zae1 hb)
    clear HO_8
    clear HO_11
    clear HO_12
    clear HO_695002
    clear BK672
    clear BK673
    clear BK694
    clear HB
    have HO_8 := n0_
    have HO_11 := n1_
    have HO_12 := n2_
    have HO_695002 := n3_
    have HO709 := n4_
    have BK672 := n5_
    have BK673 := n6_
    have BK694 := n7_
    have HB := n8_
    clear n0_ n1_ n2_ n3_ n4_ n5_ n6_ n7_ n8_
    (try clear hb)
    (try clear hb2)
    (try clear hk)
    (try clear hi)
    (try clear ho0)
    (try clear hna_)
    (try clear hnb_)
    obtain ⟨Ao122, co122, eo122⟩ := Kd.R_slice HO709.out
    (first | subst eo122 | (injection eo122 with f1_ f2_ f3_; have f4_ := f1_.symm; have f5_ := f3_.symm; clear f1_ f2_ f3_; subst f4_; subst f5_))
    refine hK.out _ _ ⟨(blk_cell BK694.out 0).trans rfl, (blk_cell BK694.out 1).trans rfl, (blk_cell BK694.out 2).trans rfl, (blk_cell BK672.out 0).trans rfl, (blk_cell BK672.out 1).trans rfl, (blk_cell BK672.out 2).trans rfl⟩ (fun hHeld => ?_)
    clear hK K
    refine norm_ (a' := ?_) ?_ ?_
    rotate_left
    ·show Act.put _ (some 60) _ = _
     simp only [Act.put, List.setIfInBounds_toArray, List.set_cons_zero, List.set_cons_succ, i64_w, i32_w]
     rfl
    refine one_ (i := 3) (N := some 61) #[true, true, true, true, false] rfl rfl (by kernel_rfl) (by decide) (fun K hK => ?_)
    refine goes_ Try.func21 (by kernel_rfl) rfl #[.agg #[.int .i64 t689, .int .i64 t690, .slice Ao41 t691.length co41], .agg #[.int .i64 t705, .int .i64 t706, .slice Ao122 t707.length co122]] (by rfl) rfl rfl zae3 ?_
    with_reducible refine (laws_eqBoard.calls kj21 t689 t690 _ _ t691 t705 t706 _ _ t707 false _ ?side1 ?side2 ?side3 ?side4 A55.out).mono ?_
    (case side1 => exact zae29)
    (case side2 => exact (Kd.R_reads' HO_695002.out).2.1)
    (case side3 => exact zae30)
    (case side4 => exact (Kd.R_reads' HO709.out).2.1)
    rintro e w123 ⟨rfl, hb⟩
    refine ⟨_, rfl, ?_⟩
    have n0_ := Aside0.mk (Kd.R_below zae10 hb)
    have n1_ := Aside0.mk (Kd.R_below zae12 hb)
    have n2_ := Aside0.mk (Kd.R_below zae9 hb)
    have n3_ := Aside0.mk (Kd.R_below zae8 hb)
    have n4_ := Aside0.mk (Kd.R_below zae19 hb)
    have n5_ := Aside0.mk (blk_below (g := gb672) (o := .cells #[.int .i64 a0_0, .int .i64 a0_1, .slice A0_2 l0_2.length c0_2] 24 (0, 0)) zae2 hb)
    have n6_ := Aside0.mk (blk_below (g := gb673) (o := .cells #[.int .i64 a1_0, .int .i64 a1_1] 26 (0, 0)) zae4 hb)
    have n7_ := Aside0.mk (blk_below (g := gb694) (o := .cells #[.int .i64 t689, .int .i64 t690, .slice Ao41 t691.length co41] 30 (0, 0)) zae7 hb)
    have n8_ := Aside0.mk (below_step zae1 hb)
    clear HO_8
    clear HO_11
    clear HO_12
    clear HO_695002
    clear HO709
    clear BK672
    clear BK673
    clear BK694
    clear HB
    have HO_8 := n0_
    have HO_11 := n1_
    have HO_12 := n2_
    have HO_695002 := n3_
    have HO709 := n4_
    have BK672 := n5_
    have BK673 := n6_
    have BK694 := n7_
    have HB := n8_
    clear n0_ n1_ n2_ n3_ n4_ n5_ n6_ n7_ n8_
    (try clear hb)
    (try clear hb2)
    (try clear hk)
    (try clear hi)
    (try clear hna_)
    (try clear hnb_)
    refine hK.out _ _ ⟨(blk_cell BK694.out 0).trans rfl, (blk_cell BK694.out 1).trans rfl, (blk_cell BK694.out 2).trans rfl, (blk_cell BK672.out 0).trans rfl, (blk_cell BK672.out 1).trans rfl, (blk_cell BK672.out 2).trans rfl⟩ (fun hHeld => ?_)
    clear hK K
    refine norm_ (a' := ?_) ?_ ?_
    rotate_left
    ·show Act.put _ (some 61) _ = _
     simp only [Act.put, List.setIfInBounds_toArray, List.set_cons_zero, List.set_cons_succ, i64_w, i32_w]
     rfl
    refine pure_ (i := 4) (N := some 62) (v := ?_) (a' := ?_) #[true, true, true, true, true] rfl rfl (by kernel_rfl) (fun _ _ _ h => h) (Or.inl ⟨by rfl, ?_⟩) ?_ ?_
    rotate_left
    ·intro w'
     go_simp
     with_reducible rfl
    rotate_left
    ·simp only [Act.put, List.setIfInBounds_toArray, List.set_cons_zero, List.set_cons_succ, i64_w, i32_w]
     rfl
    refine done_ (by kernel_rfl) ?_
    try go_wp2
    go_ret
    exact ⟨zae17, zae1⟩
   subst c56
   have H1 : ((laws_toIntS.f kj21 l2).bind fun t711 => ((laws_eqIntS.f kj21 t695 t711).bind fun t714 => (if t714 = true then ((laws_markBoard.f kj21 t689 t690 t691 1).bind fun bt715 => ((laws_markIntS.f kj21 t695 bt715.1).bind fun bt717 => (if bt717.1 < 0 then (laws_FnExactNumbersOfWalk.j1 kj21 l2 t685 t688 t700 true a0_0 a0_1 l0_2 a1_0 a1_1) else ((laws_eqIntS.f kj21 t700 t685).bind fun t719 => (if t719 = true then (laws_FnExactNumbersOfWalk.j1 kj21 l2 t685 t688 t700 (t703 != t688) a0_0 a0_1 l0_2 a1_0 a1_1) else (laws_FnExactNumbersOfWalk.j1 kj21 l2 t685 t688 t700 true a0_0 a0_1 l0_2 a1_0 a1_1)))))) else (some false)))) = some r := by rw [if_pos rfl] at H; exact H
   clear H
   have H := H1
   clear H1
   replace H := Option.bind_eq_some_iff.mp H
   obtain ⟨t711, A570, H⟩ := H
   replace H : ((laws_eqIntS.f kj21 t695 t711).bind fun t714 => (if t714 = true then ((laws_markBoard.f kj21 t689 t690 t691 1).bind fun bt715 => ((laws_markIntS.f kj21 t695 bt715.1).bind fun bt717 => (if bt717.1 < 0 then (laws_FnExactNumbersOfWalk.j1 kj21 l2 t685 t688 t700 true a0_0 a0_1 l0_2 a1_0 a1_1) else ((laws_eqIntS.f kj21 t700 t685).bind fun t719 => (if t719 = true then (laws_FnExactNumbersOfWalk.j1 kj21 l2 t685 t688 t700 (t703 != t688) a0_0 a0_1 l0_2 a1_0 a1_1) else (laws_FnExactNumbersOfWalk.j1 kj21 l2 t685 t688 t700 true a0_0 a0_1 l0_2 a1_0 a1_1)))))) else (some false))) = some r := H
   have A57 := Aside0.mk A570
   clear A570
   replace H := Option.bind_eq_some_iff.mp H
   obtain ⟨t714, A580, H⟩ := H
   replace H : (if t714 = true then ((laws_markBoard.f kj21 t689 t690 t691 1).bind fun bt715 => ((laws_markIntS.f kj21 t695 bt715.1).bind fun bt717 => (if bt717.1 < 0 then (laws_FnExactNumbersOfWalk.j1 kj21 l2 t685 t688 t700 true a0_0 a0_1 l0_2 a1_0 a1_1) else ((laws_eqIntS.f kj21 t700 t685).bind fun t719 => (if t719 = true then (laws_FnExactNumbersOfWalk.j1 kj21 l2 t685 t688 t700 (t703 != t688) a0_0 a0_1 l0_2 a1_0 a1_1) else (laws_FnExactNumbersOfWalk.j1 kj21 l2 t685 t688 t700 true a0_0 a0_1 l0_2 a1_0 a1_1)))))) else (some false)) = some r := H
   have A58 := Aside0.mk A580
   clear A580
   by_cases c59 : t714 = true
   rotate_left
   ·replace c59 := Bool.eq_false_iff.mpr c59
    subst c59
    have H1 : (some false) = some r := by rw [if_neg (show ¬ (false = true) by decide)] at H; exact H
    clear H
    have H := H1
    clear H1
    obtain rfl := Option.some.inj H
    try go_wp2
    have n0_ := Aside0.mk (Kd.R_drew HO_8.out)
    have n1_ := Aside0.mk (Kd.R_drew HO_11.out)
    have n2_ := Aside0.mk (Kd.R_drew HO_12.out)
    have n3_ := Aside0.mk (Kd.R_drew HO_695002.out)
    have n4_ := Aside0.mk (blk_drew BK672.out)
    have n5_ := Aside0.mk (blk_drew BK673.out)
    have n6_ := Aside0.mk (blk_drew BK694.out)
    have n7_ := Aside0.mk (below_drew1 HB.out)
    clear HO_8
    clear HO_11
    clear HO_12
    clear HO_695002
    clear BK672
    clear BK673
    clear BK694
    clear HB
    have HO_8 := n0_
    have HO_11 := n1_
    have HO_12 := n2_
    have HO_695002 := n3_
    have BK672 := n4_
    have BK673 := n5_
    have BK694 := n6_
    have HB := n7_
    clear n0_ n1_ n2_ n3_ n4_ n5_ n6_ n7_
    refine start_ (n := 5) (S := fun w' => w'.cell? ⟨gb694, 0, none⟩ = some (.int .i64 t689) ∧ w'.cell? ⟨gb694, 1, none⟩ = some (.int .i64 t690) ∧ w'.cell? ⟨gb694, 2, none⟩ = some (.slice Ao41 t691.length co41) ∧ w'.cell? ⟨gb672, 0, none⟩ = some (.int .i64 a0_0) ∧ w'.cell? ⟨gb672, 1, none⟩ = some (.int .i64 a0_1) ∧ w'.cell? ⟨gb672, 2, none⟩ = some (.slice A0_2 l0_2.length c0_2)) (ds := []) #[false, false, false, false, false] (by kernel_rfl) rfl rfl ⟨(blk_cell BK694.out 0).trans rfl, (blk_cell BK694.out 1).trans rfl, (blk_cell BK694.out 2).trans rfl, (blk_cell BK672.out 0).trans rfl, (blk_cell BK672.out 1).trans rfl, (blk_cell BK672.out 2).trans rfl⟩ (fun hHeld => ?_)
    generalize wc.drew = w114 at HO_8 HO_11 HO_12 HO_695002 BK672 BK673 BK694 HB hHeld ⊢
    refine take_ (i := 0) (N := some 58) (v := ?_) (a' := ?_) #[true, false, false, false, false] rfl rfl (by kernel_rfl) (fun _ _ _ h => h) (Or.inl ⟨by rfl, ?_⟩) hHeld ?_ ?_
    rotate_left
    ·rintro w' ⟨s0, s1, s2, s3, s4, s5⟩
     go_simp
     with_reducible rfl
    rotate_left
    ·simp only [Act.put, List.setIfInBounds_toArray, List.set_cons_zero, List.set_cons_succ, i64_w, i32_w]
     rfl
    refine take_ (i := 1) (N := some 59) (v := ?_) (a' := ?_) #[true, true, false, false, false] rfl rfl (by kernel_rfl) (fun _ _ _ h => h) (Or.inl ⟨by rfl, ?_⟩) hHeld ?_ ?_
    rotate_left
    ·rintro w' ⟨s0, s1, s2, s3, s4, s5⟩
     go_simp
     with_reducible rfl
    rotate_left
    ·simp only [Act.put, List.setIfInBounds_toArray, List.set_cons_zero, List.set_cons_succ, i64_w, i32_w]
     rfl
    refine one_ (i := 2) (N := some 60) #[true, true, true, false, false] rfl rfl (by kernel_rfl) (by decide) (fun K hK => ?_)
    refine goes_ Try.func17 (by kernel_rfl) rfl #[.agg #[.int .i64 a0_0, .int .i64 a0_1, .slice A0_2 l0_2.length c0_2]] (by rfl) rfl rfl zae3 ?_
    with_reducible refine (laws_toBoard.calls kj21 a0_0 a0_1 _ _ l0_2 t705 t706 t707 _ ?side1 ?side2 A54.out).mono ?_
    (case side1 => exact zae13)
    (case side2 => exact HC0_2.out)
    rintro e w115 ⟨v708, rfl, ho0, hb⟩
    refine ⟨_, rfl, ?_⟩
    have n0_ := Aside0.mk (Kd.R_elder' zae10 (Kd.R_base ho0) hb)
    have n1_ := Aside0.mk (Kd.R_elder' zae12 (Kd.R_base ho0) hb)
    have n2_ := Aside0.mk (Kd.R_elder' zae9 (Kd.R_base ho0) hb)
    have n3_ := Aside0.mk (Kd.R_elder' zae8 (Kd.R_base ho0) hb)
    have n4_ := Aside0.mk (Kd.R_lower (Kd.R_new' (Kd.R_new' (Kd.R_new' (Kd.R_new' ho0 (Kd.R_lt zae10)) (Kd.R_lt zae12)) (Kd.R_lt zae9)) (Kd.R_lt zae8)) (below_size zae1))
    have n5_ := Aside0.mk (blk_below (g := gb672) (o := .cells #[.int .i64 a0_0, .int .i64 a0_1, .slice A0_2 l0_2.length c0_2] 24 (0, 0)) zae2 hb)
    have n6_ := Aside0.mk (blk_below (g := gb673) (o := .cells #[.int .i64 a1_0, .int .i64 a1_1] 26 (0, 0)) zae4 hb)
    have n7_ := Aside0.mk (blk_below (g := gb694) (o := .cells #[.int .i64 t689, .int .i64 t690, .slice Ao41 t691.length co41] 30 (0, 0)) zae7 hb)
    have n8_ := Aside0.mk (below_step zae1 hb)
    clear HO_8
    clear HO_11
    clear HO_12
    clear HO_695002
    clear BK672
    clear BK673
    clear BK694
    clear HB
    have HO_8 := n0_
    have HO_11 := n1_
    have HO_12 := n2_
    have HO_695002 := n3_
    have HO709 := n4_
    have BK672 := n5_
    have BK673 := n6_
    have BK694 := n7_
    have HB := n8_
    clear n0_ n1_ n2_ n3_ n4_ n5_ n6_ n7_ n8_
    (try clear hb)
    (try clear hb2)
    (try clear hk)
    (try clear hi)
    (try clear ho0)
    (try clear hna_)
    (try clear hnb_)
    obtain ⟨Ao116, co116, eo116⟩ := Kd.R_slice HO709.out
    (first | subst eo116 | (injection eo116 with f1_ f2_ f3_; have f4_ := f1_.symm; have f5_ := f3_.symm; clear f1_ f2_ f3_; subst f4_; subst f5_))
    refine hK.out _ _ ⟨(blk_cell BK694.out 0).trans rfl, (blk_cell BK694.out 1).trans rfl, (blk_cell BK694.out 2).trans rfl, (blk_cell BK672.out 0).trans rfl, (blk_cell BK672.out 1).trans rfl, (blk_cell BK672.out 2).trans rfl⟩ (fun hHeld => ?_)
    clear hK K
    refine norm_ (a' := ?_) ?_ ?_
    rotate_left
    ·show Act.put _ (some 60) _ = _
     simp only [Act.put, List.setIfInBounds_toArray, List.set_cons_zero, List.set_cons_succ, i64_w, i32_w]
     rfl
    refine one_ (i := 3) (N := some 61) #[true, true, true, true, false] rfl rfl (by kernel_rfl) (by decide) (fun K hK => ?_)
    refine goes_ Try.func21 (by kernel_rfl) rfl #[.agg #[.int .i64 t689, .int .i64 t690, .slice Ao41 t691.length co41], .agg #[.int .i64 t705, .int .i64 t706, .slice Ao116 t707.length co116]] (by rfl) rfl rfl zae3 ?_
    with_reducible refine (laws_eqBoard.calls kj21 t689 t690 _ _ t691 t705 t706 _ _ t707 true _ ?side1 ?side2 ?side3 ?side4 A55.out).mono ?_
    (case side1 => exact zae29)
    (case side2 => exact (Kd.R_reads' HO_695002.out).2.1)
    (case side3 => exact zae30)
    (case side4 => exact (Kd.R_reads' HO709.out).2.1)
    rintro e w117 ⟨rfl, hb⟩
    refine ⟨_, rfl, ?_⟩
    have n0_ := Aside0.mk (Kd.R_below zae10 hb)
    have n1_ := Aside0.mk (Kd.R_below zae12 hb)
    have n2_ := Aside0.mk (Kd.R_below zae9 hb)
    have n3_ := Aside0.mk (Kd.R_below zae8 hb)
    have n4_ := Aside0.mk (Kd.R_below zae19 hb)
    have n5_ := Aside0.mk (blk_below (g := gb672) (o := .cells #[.int .i64 a0_0, .int .i64 a0_1, .slice A0_2 l0_2.length c0_2] 24 (0, 0)) zae2 hb)
    have n6_ := Aside0.mk (blk_below (g := gb673) (o := .cells #[.int .i64 a1_0, .int .i64 a1_1] 26 (0, 0)) zae4 hb)
    have n7_ := Aside0.mk (blk_below (g := gb694) (o := .cells #[.int .i64 t689, .int .i64 t690, .slice Ao41 t691.length co41] 30 (0, 0)) zae7 hb)
    have n8_ := Aside0.mk (below_step zae1 hb)
    clear HO_8
    clear HO_11
    clear HO_12
    clear HO_695002
    clear HO709
    clear BK672
    clear BK673
    clear BK694
    clear HB
    have HO_8 := n0_
    have HO_11 := n1_
    have HO_12 := n2_
    have HO_695002 := n3_
    have HO709 := n4_
    have BK672 := n5_
    have BK673 := n6_
    have BK694 := n7_
    have HB := n8_
    clear n0_ n1_ n2_ n3_ n4_ n5_ n6_ n7_ n8_
    (try clear hb)
    (try clear hb2)
    (try clear hk)
    (try clear hi)
    (try clear hna_)
    (try clear hnb_)
    refine hK.out _ _ ⟨(blk_cell BK694.out 0).trans rfl, (blk_cell BK694.out 1).trans rfl, (blk_cell BK694.out 2).trans rfl, (blk_cell BK672.out 0).trans rfl, (blk_cell BK672.out 1).trans rfl, (blk_cell BK672.out 2).trans rfl⟩ (fun hHeld => ?_)
    clear hK K
    refine norm_ (a' := ?_) ?_ ?_
    rotate_left
    ·show Act.put _ (some 61) _ = _
     simp only [Act.put, List.setIfInBounds_toArray, List.set_cons_zero, List.set_cons_succ, i64_w, i32_w]
     rfl
    refine pure_ (i := 4) (N := some 62) (v := ?_) (a' := ?_) #[true, true, true, true, true] rfl rfl (by kernel_rfl) (fun _ _ _ h => h) (Or.inl ⟨by rfl, ?_⟩) ?_ ?_
    rotate_left
    ·intro w'
     go_simp
     with_reducible rfl
    rotate_left
    ·simp only [Act.put, List.setIfInBounds_toArray, List.set_cons_zero, List.set_cons_succ, i64_w, i32_w]
     rfl
    refine done_ (by kernel_rfl) ?_
    try go_wp2_with (first | ((with_reducible refine gate_callee (f := 19) rfl ?_); refine goesL_ (some 65) rfl rfl Try.func19 (by kernel_rfl) rfl #[.slice A2 l2.length c2] rfl zae3 ?_; (with_reducible refine (laws_toIntS.calls kj21 _ _ l2 t711 _ ?side1 ?side2 A57.out).mono ?_); (case side1 => exact zae21); (case side2 => exact HC2.out); rintro e w118 ⟨v712, rfl, ho0, hb⟩; refine ⟨_, rfl, ?_⟩; have n0_ := Aside0.mk (Kd.R_elder' zae10 (Kd.R_base ho0) hb); have n1_ := Aside0.mk (Kd.R_elder' zae12 (Kd.R_base ho0) hb); have n2_ := Aside0.mk (Kd.R_elder' zae9 (Kd.R_base ho0) hb); have n3_ := Aside0.mk (Kd.R_elder' zae8 (Kd.R_base ho0) hb); have n4_ := Aside0.mk (Kd.R_elder' zae19 (Kd.R_base ho0) hb); have n5_ := Aside0.mk (Kd.R_lower (Kd.R_new' (Kd.R_new' (Kd.R_new' (Kd.R_new' (Kd.R_new' ho0 (Kd.R_lt zae10)) (Kd.R_lt zae12)) (Kd.R_lt zae9)) (Kd.R_lt zae8)) (Kd.R_lt zae19)) (below_size zae1)); have n6_ := Aside0.mk (blk_below (g := gb672) (o := .cells #[.int .i64 a0_0, .int .i64 a0_1, .slice A0_2 l0_2.length c0_2] 24 (0, 0)) zae2 hb); have n7_ := Aside0.mk (blk_below (g := gb673) (o := .cells #[.int .i64 a1_0, .int .i64 a1_1] 26 (0, 0)) zae4 hb); have n8_ := Aside0.mk (blk_below (g := gb694) (o := .cells #[.int .i64 t689, .int .i64 t690, .slice Ao41 t691.length co41] 30 (0, 0)) zae7 hb); have n9_ := Aside0.mk (below_step zae1 hb); clear HO_8; clear HO_11; clear HO_12; clear HO_695002; clear HO709; clear BK672; clear BK673; clear BK694; clear HB; have HO_8 := n0_; have HO_11 := n1_; have HO_12 := n2_; have HO_695002 := n3_; have HO709 := n4_; have HO713 := n5_; have BK672 := n6_; have BK673 := n7_; have BK694 := n8_; have HB := n9_; clear n0_ n1_ n2_ n3_ n4_ n5_ n6_ n7_ n8_ n9_; (try clear hb); (try clear hb2); (try clear hk); (try clear hi); (try clear ho0); (try clear hna_); (try clear hnb_); obtain ⟨Ao119, co119, eo119⟩ := Kd.R_slice HO713.out; subst eo119) | ((with_reducible refine gate_callee (f := 22) rfl ?_); refine goesL_ (some 66) rfl rfl Try.func22 (by kernel_rfl) rfl #[.slice Ao45 t695.length co45, .slice Ao119 t711.length co119] rfl zae3 ?_; (with_reducible refine (laws_eqIntS.calls kj21 _ _ t695 _ _ t711 false _ ?side1 ?side2 ?side3 ?side4 A58.out).mono ?_); (case side1 => exact zae44); (case side2 => exact (Kd.R_reads' HO_11.out).2.1); (case side3 => exact zae46); (case side4 => exact (Kd.R_reads' HO713.out).2.1); rintro e w' ⟨rfl, ⟨nd, rfl⟩⟩; refine ⟨_, rfl, ?_⟩))
    go_ret
    exact ⟨zae17, zae1⟩
   subst c59
   have H1 : ((laws_markBoard.f kj21 t689 t690 t691 1).bind fun bt715 => ((laws_markIntS.f kj21 t695 bt715.1).bind fun bt717 => (if bt717.1 < 0 then (laws_FnExactNumbersOfWalk.j1 kj21 l2 t685 t688 t700 true a0_0 a0_1 l0_2 a1_0 a1_1) else ((laws_eqIntS.f kj21 t700 t685).bind fun t719 => (if t719 = true then (laws_FnExactNumbersOfWalk.j1 kj21 l2 t685 t688 t700 (t703 != t688) a0_0 a0_1 l0_2 a1_0 a1_1) else (laws_FnExactNumbersOfWalk.j1 kj21 l2 t685 t688 t700 true a0_0 a0_1 l0_2 a1_0 a1_1)))))) = some r := by rw [if_pos rfl] at H; exact H
   clear H
   have H := H1
   clear H1
   replace H := Option.bind_eq_some_iff.mp H
   obtain ⟨⟨t715, t716⟩, A600, H⟩ := H
   replace H : ((laws_markIntS.f kj21 t695 t715).bind fun bt717 => (if bt717.1 < 0 then (laws_FnExactNumbersOfWalk.j1 kj21 l2 t685 t688 t700 true a0_0 a0_1 l0_2 a1_0 a1_1) else ((laws_eqIntS.f kj21 t700 t685).bind fun t719 => (if t719 = true then (laws_FnExactNumbersOfWalk.j1 kj21 l2 t685 t688 t700 (t703 != t688) a0_0 a0_1 l0_2 a1_0 a1_1) else (laws_FnExactNumbersOfWalk.j1 kj21 l2 t685 t688 t700 true a0_0 a0_1 l0_2 a1_0 a1_1))))) = some r := H
   have A60 := Aside0.mk A600
   clear A600
   replace H := Option.bind_eq_some_iff.mp H
   obtain ⟨⟨t717, t718⟩, A610, H⟩ := H
   replace H : (if t717 < 0 then (laws_FnExactNumbersOfWalk.j1 kj21 l2 t685 t688 t700 true a0_0 a0_1 l0_2 a1_0 a1_1) else ((laws_eqIntS.f kj21 t700 t685).bind fun t719 => (if t719 = true then (laws_FnExactNumbersOfWalk.j1 kj21 l2 t685 t688 t700 (t703 != t688) a0_0 a0_1 l0_2 a1_0 a1_1) else (laws_FnExactNumbersOfWalk.j1 kj21 l2 t685 t688 t700 true a0_0 a0_1 l0_2 a1_0 a1_1)))) = some r := H
   have A61 := Aside0.mk A610
   clear A610
   have HC62 := Aside0.mk H
   clear H
   try go_wp2
   have n0_ := Aside0.mk (Kd.R_drew HO_8.out)
   have n1_ := Aside0.mk (Kd.R_drew HO_11.out)
   have n2_ := Aside0.mk (Kd.R_drew HO_12.out)
   have n3_ := Aside0.mk (Kd.R_drew HO_695002.out)
   have n4_ := Aside0.mk (blk_drew BK672.out)
   have n5_ := Aside0.mk (blk_drew BK673.out)
   have n6_ := Aside0.mk (blk_drew BK694.out)
   have n7_ := Aside0.mk (below_drew1 HB.out)
   clear HO_8
   clear HO_11
   clear HO_12
   clear HO_695002
   clear BK672
   clear BK673
   clear BK694
   clear HB
   have HO_8 := n0_
   have HO_11 := n1_
   have HO_12 := n2_
   have HO_695002 := n3_
   have BK672 := n4_
   have BK673 := n5_
   have BK694 := n6_
   have HB := n7_
   clear n0_ n1_ n2_ n3_ n4_ n5_ n6_ n7_
   refine start_ (n := 5) (S := fun w' => w'.cell? ⟨gb694, 0, none⟩ = some (.int .i64 t689) ∧ w'.cell? ⟨gb694, 1, none⟩ = some (.int .i64 t690) ∧ w'.cell? ⟨gb694, 2, none⟩ = some (.slice Ao41 t691.length co41) ∧ w'.cell? ⟨gb672, 0, none⟩ = some (.int .i64 a0_0) ∧ w'.cell? ⟨gb672, 1, none⟩ = some (.int .i64 a0_1) ∧ w'.cell? ⟨gb672, 2, none⟩ = some (.slice A0_2 l0_2.length c0_2)) (ds := []) #[false, false, false, false, false] (by kernel_rfl) rfl rfl ⟨(blk_cell BK694.out 0).trans rfl, (blk_cell BK694.out 1).trans rfl, (blk_cell BK694.out 2).trans rfl, (blk_cell BK672.out 0).trans rfl, (blk_cell BK672.out 1).trans rfl, (blk_cell BK672.out 2).trans rfl⟩ (fun hHeld => ?_)
   generalize wc.drew = w63 at HO_8 HO_11 HO_12 HO_695002 BK672 BK673 BK694 HB hHeld ⊢
   refine take_ (i := 0) (N := some 58) (v := ?_) (a' := ?_) #[true, false, false, false, false] rfl rfl (by kernel_rfl) (fun _ _ _ h => h) (Or.inl ⟨by rfl, ?_⟩) hHeld ?_ ?_
   rotate_left
   ·rintro w' ⟨s0, s1, s2, s3, s4, s5⟩
    go_simp
    with_reducible rfl
   rotate_left
   ·simp only [Act.put, List.setIfInBounds_toArray, List.set_cons_zero, List.set_cons_succ, i64_w, i32_w]
    rfl
   refine take_ (i := 1) (N := some 59) (v := ?_) (a' := ?_) #[true, true, false, false, false] rfl rfl (by kernel_rfl) (fun _ _ _ h => h) (Or.inl ⟨by rfl, ?_⟩) hHeld ?_ ?_
   rotate_left
   ·rintro w' ⟨s0, s1, s2, s3, s4, s5⟩
    go_simp
    with_reducible rfl
   rotate_left
   ·simp only [Act.put, List.setIfInBounds_toArray, List.set_cons_zero, List.set_cons_succ, i64_w, i32_w]
    rfl
   refine one_ (i := 2) (N := some 60) #[true, true, true, false, false] rfl rfl (by kernel_rfl) (by decide) (fun K hK => ?_)
   refine goes_ Try.func17 (by kernel_rfl) rfl #[.agg #[.int .i64 a0_0, .int .i64 a0_1, .slice A0_2 l0_2.length c0_2]] (by rfl) rfl rfl zae3 ?_
   with_reducible refine (laws_toBoard.calls kj21 a0_0 a0_1 _ _ l0_2 t705 t706 t707 _ ?side1 ?side2 A54.out).mono ?_
   (case side1 => exact zae13)
   (case side2 => exact HC0_2.out)
   rintro e w64 ⟨v708, rfl, ho0, hb⟩
   refine ⟨_, rfl, ?_⟩
   have n0_ := Aside0.mk (Kd.R_elder' zae10 (Kd.R_base ho0) hb)
   have n1_ := Aside0.mk (Kd.R_elder' zae12 (Kd.R_base ho0) hb)
   have n2_ := Aside0.mk (Kd.R_elder' zae9 (Kd.R_base ho0) hb)
   have n3_ := Aside0.mk (Kd.R_elder' zae8 (Kd.R_base ho0) hb)
   have n4_ := Aside0.mk (Kd.R_lower (Kd.R_new' (Kd.R_new' (Kd.R_new' (Kd.R_new' ho0 (Kd.R_lt zae10)) (Kd.R_lt zae12)) (Kd.R_lt zae9)) (Kd.R_lt zae8)) (below_size zae1))
   have n5_ := Aside0.mk (blk_below (g := gb672) (o := .cells #[.int .i64 a0_0, .int .i64 a0_1, .slice A0_2 l0_2.length c0_2] 24 (0, 0)) zae2 hb)
   have n6_ := Aside0.mk (blk_below (g := gb673) (o := .cells #[.int .i64 a1_0, .int .i64 a1_1] 26 (0, 0)) zae4 hb)
   have n7_ := Aside0.mk (blk_below (g := gb694) (o := .cells #[.int .i64 t689, .int .i64 t690, .slice Ao41 t691.length co41] 30 (0, 0)) zae7 hb)
   have n8_ := Aside0.mk (below_step zae1 hb)
   clear HO_8
   clear HO_11
   clear HO_12
   clear HO_695002
   clear BK672
   clear BK673
   clear BK694
   clear HB
   have HO_8 := n0_
   have HO_11 := n1_
   have HO_12 := n2_
   have HO_695002 := n3_
   have HO709 := n4_
   have BK672 := n5_
   have BK673 := n6_
   have BK694 := n7_
   have HB := n8_
   clear n0_ n1_ n2_ n3_ n4_ n5_ n6_ n7_ n8_
   (try clear hb)
   (try clear hb2)
   (try clear hk)
   (try clear hi)
   (try clear ho0)
   (try clear hna_)
   (try clear hnb_)
   obtain ⟨Ao65, co65, eo65⟩ := Kd.R_slice HO709.out
   (first | subst eo65 | (injection eo65 with f1_ f2_ f3_; have f4_ := f1_.symm; have f5_ := f3_.symm; clear f1_ f2_ f3_; subst f4_; subst f5_))
   refine hK.out _ _ ⟨(blk_cell BK694.out 0).trans rfl, (blk_cell BK694.out 1).trans rfl, (blk_cell BK694.out 2).trans rfl, (blk_cell BK672.out 0).trans rfl, (blk_cell BK672.out 1).trans rfl, (blk_cell BK672.out 2).trans rfl⟩ (fun hHeld => ?_)
   clear hK K
   refine norm_ (a' := ?_) ?_ ?_
   rotate_left
   ·show Act.put _ (some 60) _ = _
    simp only [Act.put, List.setIfInBounds_toArray, List.set_cons_zero, List.set_cons_succ, i64_w, i32_w]
    rfl
   refine one_ (i := 3) (N := some 61) #[true, true, true, true, false] rfl rfl (by kernel_rfl) (by decide) (fun K hK => ?_)
   refine goes_ Try.func21 (by kernel_rfl) rfl #[.agg #[.int .i64 t689, .int .i64 t690, .slice Ao41 t691.length co41], .agg #[.int .i64 t705, .int .i64 t706, .slice Ao65 t707.length co65]] (by rfl) rfl rfl zae3 ?_
   with_reducible refine (laws_eqBoard.calls kj21 t689 t690 _ _ t691 t705 t706 _ _ t707 true _ ?side1 ?side2 ?side3 ?side4 A55.out).mono ?_
   (case side1 => exact zae29)
   (case side2 => exact (Kd.R_reads' HO_695002.out).2.1)
   (case side3 => exact zae30)
   (case side4 => exact (Kd.R_reads' HO709.out).2.1)
   rintro e w66 ⟨rfl, hb⟩
   refine ⟨_, rfl, ?_⟩
   have n0_ := Aside0.mk (Kd.R_below zae10 hb)
   have n1_ := Aside0.mk (Kd.R_below zae12 hb)
   have n2_ := Aside0.mk (Kd.R_below zae9 hb)
   have n3_ := Aside0.mk (Kd.R_below zae8 hb)
   have n4_ := Aside0.mk (Kd.R_below zae19 hb)
   have n5_ := Aside0.mk (blk_below (g := gb672) (o := .cells #[.int .i64 a0_0, .int .i64 a0_1, .slice A0_2 l0_2.length c0_2] 24 (0, 0)) zae2 hb)
   have n6_ := Aside0.mk (blk_below (g := gb673) (o := .cells #[.int .i64 a1_0, .int .i64 a1_1] 26 (0, 0)) zae4 hb)
   have n7_ := Aside0.mk (blk_below (g := gb694) (o := .cells #[.int .i64 t689, .int .i64 t690, .slice Ao41 t691.length co41] 30 (0, 0)) zae7 hb)
   have n8_ := Aside0.mk (below_step zae1 hb)
   clear HO_8
   clear HO_11
   clear HO_12
   clear HO_695002
   clear HO709
   clear BK672
   clear BK673
   clear BK694
   clear HB
   have HO_8 := n0_
   have HO_11 := n1_
   have HO_12 := n2_
   have HO_695002 := n3_
   have HO709 := n4_
   have BK672 := n5_
   have BK673 := n6_
   have BK694 := n7_
   have HB := n8_
   clear n0_ n1_ n2_ n3_ n4_ n5_ n6_ n7_ n8_
   (try clear hb)
   (try clear hb2)
   (try clear hk)
   (try clear hi)
   (try clear hna_)
   (try clear hnb_)
   refine hK.out _ _ ⟨(blk_cell BK694.out 0).trans rfl, (blk_cell BK694.out 1).trans rfl, (blk_cell BK694.out 2).trans rfl, (blk_cell BK672.out 0).trans rfl, (blk_cell BK672.out 1).trans rfl, (blk_cell BK672.out 2).trans rfl⟩ (fun hHeld => ?_)
   clear hK K
   refine norm_ (a' := ?_) ?_ ?_
   rotate_left
   ·show Act.put _ (some 61) _ = _
    simp only [Act.put, List.setIfInBounds_toArray, List.set_cons_zero, List.set_cons_succ, i64_w, i32_w]
    rfl
   refine pure_ (i := 4) (N := some 62) (v := ?_) (a' := ?_) #[true, true, true, true, true] rfl rfl (by kernel_rfl) (fun _ _ _ h => h) (Or.inl ⟨by rfl, ?_⟩) ?_ ?_
   rotate_left
   ·intro w'
    go_simp
    with_reducible rfl
   rotate_left
   ·simp only [Act.put, List.setIfInBounds_toArray, List.set_cons_zero, List.set_cons_succ, i64_w, i32_w]
    rfl
   refine done_ (by kernel_rfl) ?_
   go_upto_region 20 with (first | ((with_reducible refine gate_callee (f := 19) rfl ?_); refine goesL_ (some 65) rfl rfl Try.func19 (by kernel_rfl) rfl #[.slice A2 l2.length c2] rfl zae3 ?_; (with_reducible refine (laws_toIntS.calls kj21 _ _ l2 t711 _ ?side1 ?side2 A57.out).mono ?_); (case side1 => exact zae21); (case side2 => exact HC2.out); rintro e w67 ⟨v712, rfl, ho0, hb⟩; refine ⟨_, rfl, ?_⟩; have n0_ := Aside0.mk (Kd.R_elder' zae10 (Kd.R_base ho0) hb); have n1_ := Aside0.mk (Kd.R_elder' zae12 (Kd.R_base ho0) hb); have n2_ := Aside0.mk (Kd.R_elder' zae9 (Kd.R_base ho0) hb); have n3_ := Aside0.mk (Kd.R_elder' zae8 (Kd.R_base ho0) hb); have n4_ := Aside0.mk (Kd.R_elder' zae19 (Kd.R_base ho0) hb); have n5_ := Aside0.mk (Kd.R_lower (Kd.R_new' (Kd.R_new' (Kd.R_new' (Kd.R_new' (Kd.R_new' ho0 (Kd.R_lt zae10)) (Kd.R_lt zae12)) (Kd.R_lt zae9)) (Kd.R_lt zae8)) (Kd.R_lt zae19)) (below_size zae1)); have n6_ := Aside0.mk (blk_below (g := gb672) (o := .cells #[.int .i64 a0_0, .int .i64 a0_1, .slice A0_2 l0_2.length c0_2] 24 (0, 0)) zae2 hb); have n7_ := Aside0.mk (blk_below (g := gb673) (o := .cells #[.int .i64 a1_0, .int .i64 a1_1] 26 (0, 0)) zae4 hb); have n8_ := Aside0.mk (blk_below (g := gb694) (o := .cells #[.int .i64 t689, .int .i64 t690, .slice Ao41 t691.length co41] 30 (0, 0)) zae7 hb); have n9_ := Aside0.mk (below_step zae1 hb); clear HO_8; clear HO_11; clear HO_12; clear HO_695002; clear HO709; clear BK672; clear BK673; clear BK694; clear HB; have HO_8 := n0_; have HO_11 := n1_; have HO_12 := n2_; have HO_695002 := n3_; have HO709 := n4_; have HO713 := n5_; have BK672 := n6_; have BK673 := n7_; have BK694 := n8_; have HB := n9_; clear n0_ n1_ n2_ n3_ n4_ n5_ n6_ n7_ n8_ n9_; (try clear hb); (try clear hb2); (try clear hk); (try clear hi); (try clear ho0); (try clear hna_); (try clear hnb_); obtain ⟨Ao68, co68, eo68⟩ := Kd.R_slice HO713.out; subst eo68) | ((with_reducible refine gate_callee (f := 22) rfl ?_); refine goesL_ (some 66) rfl rfl Try.func22 (by kernel_rfl) rfl #[.slice Ao45 t695.length co45, .slice Ao68 t711.length co68] rfl zae3 ?_; (with_reducible refine (laws_eqIntS.calls kj21 _ _ t695 _ _ t711 true _ ?side1 ?side2 ?side3 ?side4 A58.out).mono ?_); (case side1 => exact zae44); (case side2 => exact (Kd.R_reads' HO_11.out).2.1); (case side3 => exact zae46); (case side4 => exact (Kd.R_reads' HO713.out).2.1); rintro e w' ⟨rfl, ⟨nd, rfl⟩⟩; refine ⟨_, rfl, ?_⟩; have hnb69 := NB694_672.out; have hnc69 := NB672_694.out; have hnb70 := NB694_673.out; have hnc70 := NB673_694.out; have hcz71_0 : w67.cell? ⟨gb694, 0, none⟩ = some (.int .i64 t689) := (blk_cell BK694.out 0).trans rfl; have hcz71_1 : w67.cell? ⟨gb694, 1, none⟩ = some (.int .i64 t690) := (blk_cell BK694.out 1).trans rfl; have hcz71_2 : w67.cell? ⟨gb694, 2, none⟩ = some (.slice Ao41 t691.length co41) := (blk_cell BK694.out 2).trans rfl; have hfz71_0 := blk_frozen BK694.out 0; have hfz71_1 := blk_frozen BK694.out 1; have hfz71_2 := blk_frozen BK694.out 2) | ((with_reducible refine gate_callee (f := 31) rfl ?_); refine goesL_ (some 70) rfl rfl Try.func31 (by kernel_rfl) rfl #[.agg #[.int .i64 t689, .int .i64 t690, .slice Ao41 t691.length co41], .int .i64 1] rfl zae3 ?_; (with_reducible refine (laws_markBoard.calls kj21 t689 t690 (fun k_ => some k_ = (.slice Ao41 t691.length co41 : Value).ownBlock) (.slice Ao41 t691.length co41) t691 1 t715 t716 w _ ?side1 ?side2 A60.out).mono ?_); (case side1 => exact zae1); (case side2 => exact Kd.R_tight rfl HO_695002.out); rintro e w72 ⟨rfl, hy0, hb, hkp⟩; refine ⟨_, rfl, ?_⟩; have n0_ := Aside0.mk (Kd.R_mono (ok' := fun k_ => some k_ ≠ (.slice Ao45 t695.length co45 : Value).ownBlock ∧ some k_ ≠ (v701 : Value).ownBlock ∧ some k_ ≠ (.slice Ao41 t691.length co41 : Value).ownBlock ∧ some k_ ≠ (.slice Ao65 t707.length co65 : Value).ownBlock ∧ some k_ ≠ (.slice Ao68 t711.length co68 : Value).ownBlock) (Kd.R_keptB (HO_8.out) hkp (fun k_ hk_ hs_ => (hk_.1.1.2.2) hs_)) (fun k_ hk_ => ⟨hk_.1.1.1.1, hk_.1.1.1.2.1, hk_.1.1.1.2.2, hk_.1.1.2, hk_.1.2⟩)); have n1_ := Aside0.mk (Kd.R_mono (ok' := fun k_ => some k_ ≠ (v686 : Value).ownBlock ∧ some k_ ≠ (v701 : Value).ownBlock ∧ some k_ ≠ (.slice Ao41 t691.length co41 : Value).ownBlock ∧ some k_ ≠ (.slice Ao65 t707.length co65 : Value).ownBlock ∧ some k_ ≠ (.slice Ao68 t711.length co68 : Value).ownBlock) (Kd.R_keptB (HO_11.out) hkp (fun k_ hk_ hs_ => (hk_.1.1.2.2) hs_)) (fun k_ hk_ => ⟨hk_.1.1.1.1, hk_.1.1.1.2.1, hk_.1.1.1.2.2, hk_.1.1.2, hk_.1.2⟩)); have n2_ := Aside0.mk (Kd.R_mono (ok' := fun k_ => some k_ ≠ (v686 : Value).ownBlock ∧ some k_ ≠ (.slice Ao45 t695.length co45 : Value).ownBlock ∧ some k_ ≠ (.slice Ao41 t691.length co41 : Value).ownBlock ∧ some k_ ≠ (.slice Ao65 t707.length co65 : Value).ownBlock ∧ some k_ ≠ (.slice Ao68 t711.length co68 : Value).ownBlock) (Kd.R_keptB (HO_12.out) hkp (fun k_ hk_ hs_ => (hk_.1.1.2.2) hs_)) (fun k_ hk_ => ⟨hk_.1.1.1.1, hk_.1.1.1.2.1, hk_.1.1.1.2.2, hk_.1.1.2, hk_.1.2⟩)); have n3_ := Aside0.mk (Kd.R_reok rfl hy0 (fun k_ e_ => HO_695002.out.1 k_ e_)); have n4_ := Aside0.mk (blk_kept zae2 hkp (fun hs_ => (fun e_ => (Kd.R_ne HO_695002.out BK672.out (by decide)) e_) hs_)); have n5_ := Aside0.mk (blk_kept zae4 hkp (fun hs_ => (fun e_ => (Kd.R_ne HO_695002.out BK673.out (by decide)) e_) hs_)); have n6_ := Aside0.mk (blk_kept zae7 hkp (fun hs_ => (fun e_ => (Kd.R_ne HO_695002.out BK694.out (by decide)) e_) hs_)); have n7_ := Aside0.mk (Kd.R_mono (ok' := fun k_ => some k_ ≠ (v686 : Value).ownBlock ∧ some k_ ≠ (.slice Ao45 t695.length co45 : Value).ownBlock ∧ some k_ ≠ (v701 : Value).ownBlock ∧ some k_ ≠ (.slice Ao41 t691.length co41 : Value).ownBlock ∧ some k_ ≠ (.slice Ao68 t711.length co68 : Value).ownBlock) (Kd.R_keptB (HO709.out) hkp (fun k_ hk_ hs_ => (hk_.1.2) hs_)) (fun k_ hk_ => ⟨hk_.1.1.1.1.1.2, hk_.1.1.1.1.2, hk_.1.1.1.2, hk_.1.1.2, hk_.1.2⟩)); have n8_ := Aside0.mk (Kd.R_mono (ok' := fun k_ => some k_ ≠ (v686 : Value).ownBlock ∧ some k_ ≠ (.slice Ao45 t695.length co45 : Value).ownBlock ∧ some k_ ≠ (v701 : Value).ownBlock ∧ some k_ ≠ (.slice Ao41 t691.length co41 : Value).ownBlock ∧ some k_ ≠ (.slice Ao65 t707.length co65 : Value).ownBlock) (Kd.R_keptB (HO713.out) hkp (fun k_ hk_ hs_ => (hk_.1.2) hs_)) (fun k_ hk_ => ⟨hk_.1.1.1.1.1.2, hk_.1.1.1.1.2, hk_.1.1.1.2, hk_.1.1.2, hk_.1.2⟩)); have n9_ := Aside0.mk (hb); clear HO_8; clear HO_11; clear HO_12; clear HO_695002; clear BK672; clear BK673; clear BK694; clear HO709; clear HO713; clear HB; have HO_8 := n0_; have HO_11 := n1_; have HO_12 := n2_; have HO_695002 := n3_; have BK672 := n4_; have BK673 := n5_; have BK694 := n6_; have HO709 := n7_; have HO713 := n8_; have HB := n9_; clear n0_ n1_ n2_ n3_ n4_ n5_ n6_ n7_ n8_ n9_; (try clear hb); (try clear hkp); (try clear hy0)) | ((with_reducible refine gate_callee (f := 32) rfl ?_); refine goesL_ (some 73) rfl rfl Try.func32 (by kernel_rfl) rfl #[.slice Ao45 t695.length co45, .int .i64 t715] rfl zae3 ?_; (with_reducible refine (laws_markIntS.calls kj21 (fun k_ => some k_ = (.slice Ao45 t695.length co45 : Value).ownBlock) (.slice Ao45 t695.length co45) t695 t715 t717 t718 w _ ?side1 ?side2 A61.out).mono ?_); (case side1 => exact zae1); (case side2 => exact Kd.R_tight rfl HO_11.out); rintro e w73 ⟨rfl, hy0, hb, hkp⟩; refine ⟨_, rfl, ?_⟩; have n0_ := Aside0.mk (Kd.R_mono (ok' := fun k_ => some k_ ≠ (.slice Ao45 t695.length co45 : Value).ownBlock ∧ some k_ ≠ (v701 : Value).ownBlock ∧ some k_ ≠ (.slice Ao41 t691.length co41 : Value).ownBlock ∧ some k_ ≠ (.slice Ao65 t707.length co65 : Value).ownBlock ∧ some k_ ≠ (.slice Ao68 t711.length co68 : Value).ownBlock) (Kd.R_keptB (HO_8.out) hkp (fun k_ hk_ hs_ => (hk_.1) hs_)) (fun k_ hk_ => ⟨hk_.1.1, hk_.1.2.1, hk_.1.2.2.1, hk_.1.2.2.2.1, hk_.1.2.2.2.2⟩)); have n1_ := Aside0.mk (Kd.R_reok rfl hy0 (fun k_ e_ => HO_11.out.1 k_ e_)); have n2_ := Aside0.mk (Kd.R_mono (ok' := fun k_ => some k_ ≠ (v686 : Value).ownBlock ∧ some k_ ≠ (.slice Ao45 t695.length co45 : Value).ownBlock ∧ some k_ ≠ (.slice Ao41 t691.length co41 : Value).ownBlock ∧ some k_ ≠ (.slice Ao65 t707.length co65 : Value).ownBlock ∧ some k_ ≠ (.slice Ao68 t711.length co68 : Value).ownBlock) (Kd.R_keptB (HO_12.out) hkp (fun k_ hk_ hs_ => (hk_.2.1) hs_)) (fun k_ hk_ => ⟨hk_.1.1, hk_.1.2.1, hk_.1.2.2.1, hk_.1.2.2.2.1, hk_.1.2.2.2.2⟩)); have n3_ := Aside0.mk (Kd.R_mono (ok' := fun k_ => some k_ ≠ (v686 : Value).ownBlock ∧ some k_ ≠ (.slice Ao45 t695.length co45 : Value).ownBlock ∧ some k_ ≠ (v701 : Value).ownBlock ∧ some k_ ≠ (.slice Ao65 t707.length co65 : Value).ownBlock ∧ some k_ ≠ (.slice Ao68 t711.length co68 : Value).ownBlock) (Kd.R_keptB (HO_695002.out) hkp (fun k_ hk_ hs_ => (hk_.1.1.2.1) hs_)) (fun k_ hk_ => ⟨hk_.1.1.1.1, hk_.1.1.1.2.1, hk_.1.1.1.2.2, hk_.1.1.2, hk_.1.2⟩)); have n4_ := Aside0.mk (blk_kept zae2 hkp (fun hs_ => (fun e_ => (Kd.R_ne HO_11.out BK672.out (by decide)) e_) hs_)); have n5_ := Aside0.mk (blk_kept zae4 hkp (fun hs_ => (fun e_ => (Kd.R_ne HO_11.out BK673.out (by decide)) e_) hs_)); have n6_ := Aside0.mk (blk_kept zae7 hkp (fun hs_ => (fun e_ => (Kd.R_ne HO_11.out BK694.out (by decide)) e_) hs_)); have n7_ := Aside0.mk (Kd.R_mono (ok' := fun k_ => some k_ ≠ (v686 : Value).ownBlock ∧ some k_ ≠ (.slice Ao45 t695.length co45 : Value).ownBlock ∧ some k_ ≠ (v701 : Value).ownBlock ∧ some k_ ≠ (.slice Ao41 t691.length co41 : Value).ownBlock ∧ some k_ ≠ (.slice Ao68 t711.length co68 : Value).ownBlock) (Kd.R_keptB (HO709.out) hkp (fun k_ hk_ hs_ => (hk_.2.1) hs_)) (fun k_ hk_ => ⟨hk_.1.1, hk_.1.2.1, hk_.1.2.2.1, hk_.1.2.2.2.1, hk_.1.2.2.2.2⟩)); have n8_ := Aside0.mk (Kd.R_mono (ok' := fun k_ => some k_ ≠ (v686 : Value).ownBlock ∧ some k_ ≠ (.slice Ao45 t695.length co45 : Value).ownBlock ∧ some k_ ≠ (v701 : Value).ownBlock ∧ some k_ ≠ (.slice Ao41 t691.length co41 : Value).ownBlock ∧ some k_ ≠ (.slice Ao65 t707.length co65 : Value).ownBlock) (Kd.R_keptB (HO713.out) hkp (fun k_ hk_ hs_ => (hk_.2.1) hs_)) (fun k_ hk_ => ⟨hk_.1.1, hk_.1.2.1, hk_.1.2.2.1, hk_.1.2.2.2.1, hk_.1.2.2.2.2⟩)); have n9_ := Aside0.mk (hb); clear HO_8; clear HO_11; clear HO_12; clear HO_695002; clear BK672; clear BK673; clear BK694; clear HO709; clear HO713; clear HB; have HO_8 := n0_; have HO_11 := n1_; have HO_12 := n2_; have HO_695002 := n3_; have BK672 := n4_; have BK673 := n5_; have BK694 := n6_; have HO709 := n7_; have HO713 := n8_; have HB := n9_; clear n0_ n1_ n2_ n3_ n4_ n5_ n6_ n7_ n8_ n9_; (try clear hb); (try clear hkp); (try clear hy0)))
   (try simp only [Act.put, List.setIfInBounds_toArray, List.set_cons_zero, List.set_cons_succ])
   go_cut [86] (fun v86 wc => ∃ (kq : Nat) (x86_61 : Bool), v86 = .bool x86_61 ∧ Aside0 (laws_FnExactNumbersOfWalk.j1 kq l2 t685 t688 t700 x86_61 a0_0 a0_1 l0_2 a1_0 a1_1 = some r) ∧ Aside0 (kq ≤ kj21) ∧ Aside0 (Kd.R (Kd.int .i64) 3 wc w.heap.size (fun k_ => some k_ ≠ (v701 : Value).ownBlock ∧ some k_ ≠ ((.slice Ao41 t691.length co41) : Value).ownBlock) v686 t685) ∧ Aside0 (Kd.R (Kd.int .i64) 3 wc w.heap.size (fun k_ => some k_ ≠ (v686 : Value).ownBlock ∧ some k_ ≠ ((.slice Ao41 t691.length co41) : Value).ownBlock) v701 t700) ∧ Aside0 (Kd.R (Kd.int .i64) 3 wc w.heap.size (fun k_ => some k_ ≠ (v686 : Value).ownBlock ∧ some k_ ≠ (v701 : Value).ownBlock) (.slice Ao41 t691.length co41) t716) ∧ Aside0 (wc.heap[gb672]? = some (.cells #[.int .i64 a0_0, .int .i64 a0_1, (.slice A0_2 l0_2.length c0_2)] 24 (0, 0))) ∧ Aside0 (wc.heap[gb673]? = some (.cells #[.int .i64 a1_0, .int .i64 a1_1] 26 (0, 0))) ∧ Aside0 (wc.heap[gb694]? = some (.cells #[.int .i64 t689, .int .i64 t690, (.slice Ao41 t691.length co41)] 30 (0, 0))) ∧ Aside0 (Below w.heap.size w wc))
   case first =>
    have H := HC62.out
    clear HC62
    by_cases c74 : t717 < 0
    ·rw [if_pos c74] at H
     have c74b0 : decide (t717 < 0) = true := decide_eq_true c74
     clear c74
     (first | rw [c74b0] | (simp only [i64_w, i32_w]; rw [c74b0]) | skip)
     have H' := Aside0.mk H
     clear H
     go_wp2
     go_meet
     case rel => exact ⟨_, (true), zae35, H', ⟨by have := HJ21.out; first | omega | exact Nat.le_refl _⟩, ⟨zae33⟩, ⟨zae34⟩, ⟨zae32⟩, ⟨zae2⟩, ⟨zae4⟩, ⟨zae7⟩, ⟨zae1⟩⟩
    rw [if_neg c74] at H
    have c74b0 : decide (t717 < 0) = false := decide_eq_false c74
    clear c74
    (first | rw [c74b0] | (simp only [i64_w, i32_w]; rw [c74b0]) | skip)
    replace H := Option.bind_eq_some_iff.mp H
    obtain ⟨t719, A750, H⟩ := H
    replace H : (if t719 = true then (laws_FnExactNumbersOfWalk.j1 kj21 l2 t685 t688 t700 (t703 != t688) a0_0 a0_1 l0_2 a1_0 a1_1) else (laws_FnExactNumbersOfWalk.j1 kj21 l2 t685 t688 t700 true a0_0 a0_1 l0_2 a1_0 a1_1)) = some r := H
    have A75 := Aside0.mk A750
    clear A750
    by_cases c76 : t719 = true
    ·subst c76
     have H1 : (laws_FnExactNumbersOfWalk.j1 kj21 l2 t685 t688 t700 (t703 != t688) a0_0 a0_1 l0_2 a1_0 a1_1) = some r := by rw [if_pos rfl] at H; exact H
     clear H
     have H := H1
     clear H1
     have H' := Aside0.mk H
     clear H
     obtain ⟨Ao77, co77, eo77⟩ := Kd.R_slice HO_12.out
     subst eo77
     obtain ⟨Ao78, co78, eo78⟩ := Kd.R_slice HO_8.out
     subst eo78
     go_wp2_with (first | (go_at_call 22; (with_reducible refine (laws_eqIntS.calls kj21 _ _ t700 _ _ t685 true _ ?side1 ?side2 ?side3 ?side4 A75.out).mono ?_); (case side1 => exact zae14); (case side2 => exact (Kd.R_reads' HO_12.out).2.1); (case side3 => exact zae22); (case side4 => exact (Kd.R_reads' HO_8.out).2.1); rintro e w' ⟨rfl, ⟨nd, rfl⟩⟩))
     go_meet
     case rel => exact ⟨_, ((t703 != t688)), zae35, H', ⟨by have := HJ21.out; first | omega | exact Nat.le_refl _⟩, ⟨zae33⟩, ⟨zae34⟩, ⟨zae32⟩, ⟨zae2⟩, ⟨zae4⟩, ⟨zae7⟩, ⟨zae1⟩⟩
    replace c76 := Bool.eq_false_iff.mpr c76
    subst c76
    have H1 : (laws_FnExactNumbersOfWalk.j1 kj21 l2 t685 t688 t700 true a0_0 a0_1 l0_2 a1_0 a1_1) = some r := by rw [if_neg (show ¬ (false = true) by decide)] at H; exact H
    clear H
    have H := H1
    clear H1
    have H' := Aside0.mk H
    clear H
    obtain ⟨Ao79, co79, eo79⟩ := Kd.R_slice HO_12.out
    subst eo79
    obtain ⟨Ao80, co80, eo80⟩ := Kd.R_slice HO_8.out
    subst eo80
    go_wp2_with (first | (go_at_call 22; (with_reducible refine (laws_eqIntS.calls kj21 _ _ t700 _ _ t685 false _ ?side1 ?side2 ?side3 ?side4 A75.out).mono ?_); (case side1 => exact zae14); (case side2 => exact (Kd.R_reads' HO_12.out).2.1); (case side3 => exact zae22); (case side4 => exact (Kd.R_reads' HO_8.out).2.1); rintro e w' ⟨rfl, ⟨nd, rfl⟩⟩))
    go_meet
    case rel => exact ⟨_, (true), zae35, H', ⟨by have := HJ21.out; first | omega | exact Nat.le_refl _⟩, ⟨zae33⟩, ⟨zae34⟩, ⟨zae32⟩, ⟨zae2⟩, ⟨zae4⟩, ⟨zae7⟩, ⟨zae1⟩⟩
   case rest =>
    clear HC62
    try clear c1; try clear c2; try clear p2; try clear c3; try clear c4; try clear c4b0; try clear c4b1; try clear c5; try clear c6; try clear c7; try clear c8; try clear c8b0; try clear c11; try clear c15; try clear c17; try clear c18; try clear c19; try clear c21; try clear c22; try clear c25; try clear c29; try clear c30; try clear c31; try clear c32; try clear c38; try clear c39; try clear c48; try clear c53; try clear c56; try clear c59; try clear c69; try clear c70; try clear c74; try clear c74b0; try clear c76; try clear hcz12_0; try clear hcz12_1; try clear hcz12_2; try clear hcz26_0; try clear hcz26_1
    try clear hcz26_2; try clear hcz35_0; try clear hcz35_1; try clear hcz35_2; try clear hcz40_0; try clear hcz40_1; try clear hcz40_2; try clear hcz71_0; try clear hcz71_1; try clear hcz71_2; try clear hfz12_0; try clear hfz12_1; try clear hfz12_2; try clear hfz26_0; try clear hfz26_1; try clear hfz26_2; try clear hfz35_0; try clear hfz35_1; try clear hfz35_2; try clear hfz40_0; try clear hfz40_1; try clear hfz40_2; try clear hfz71_0; try clear hfz71_1; try clear hfz71_2; try clear p2
    obtain ⟨kq, x86_61, rfl, HA, HJ61, HO_8, HO_12, HO_695002, BK672, BK673, BK694, HB⟩ := hcut
    have hl695002_61 := (Kd.R_reads' HO_695002.out).1
    rw [hl695002_61] at HO_695002
    (try simp only [hl695002_61])
    (try simp only [hl695002_61] at BK672)
    (try simp only [hl695002_61] at BK673)
    (try simp only [hl695002_61] at BK694)
    (try simp only [hl695002_61] at HO_8)
    (try simp only [hl695002_61] at HO_12)
    cases kq with
    | zero => exact absurd HA.out (by simp [laws_FnExactNumbersOfWalk.j1])
    | succ kj61 =>
     have H := HA.out
     clear HA
     simp only [laws_FnExactNumbersOfWalk.j1] at H
     by_cases c81 : x86_61 = true
     ·subst c81
      have H1 : (some false) = some r := by rw [if_pos rfl] at H; exact H
      clear H
      have H := H1
      clear H1
      obtain rfl := Option.some.inj H
      go_wp2
      go_ret
      exact ⟨zae17, zae1⟩
     replace c81 := Bool.eq_false_iff.mpr c81
     subst c81
     have H1 : ((laws_markIntS.f kj61 t700 1).bind fun bt720 => ((laws_heldIntS.f kj61 bt720.2 1).bind fun t722 => (if t722 < 0 then (some false) else (if t722 = bt720.1 then ((laws_toBoard.f kj61 a0_0 a0_1 l0_2).bind fun bt723 => ((laws_toLeaper.f a1_0 a1_1).bind fun bt728 => ((laws_toIntS.f kj61 l2).bind fun t730 => ((impl_NumbersOfWalk.f kj61 bt723.1 bt723.2.1 bt723.2.2 bt728.1 bt728.2 t730).bind fun bt733 => ((laws_eqIntS.f kj61 bt733.1 t685).bind fun t737 => (if t737 = true then (laws_FnExactNumbersOfWalk.j2 kj61 bt720.2 bt720.1 (bt733.2 != t688)) else (laws_FnExactNumbersOfWalk.j2 kj61 bt720.2 bt720.1 true))))))) else (some false))))) = some r := by rw [if_neg (show ¬ (false = true) by decide)] at H; exact H
     clear H
     have H := H1
     clear H1
     replace H := Option.bind_eq_some_iff.mp H
     obtain ⟨⟨t720, t721⟩, A820, H⟩ := H
     replace H : ((laws_heldIntS.f kj61 t721 1).bind fun t722 => (if t722 < 0 then (some false) else (if t722 = t720 then ((laws_toBoard.f kj61 a0_0 a0_1 l0_2).bind fun bt723 => ((laws_toLeaper.f a1_0 a1_1).bind fun bt728 => ((laws_toIntS.f kj61 l2).bind fun t730 => ((impl_NumbersOfWalk.f kj61 bt723.1 bt723.2.1 bt723.2.2 bt728.1 bt728.2 t730).bind fun bt733 => ((laws_eqIntS.f kj61 bt733.1 t685).bind fun t737 => (if t737 = true then (laws_FnExactNumbersOfWalk.j2 kj61 t721 t720 (bt733.2 != t688)) else (laws_FnExactNumbersOfWalk.j2 kj61 t721 t720 true))))))) else (some false)))) = some r := H
     have A82 := Aside0.mk A820
     clear A820
     replace H := Option.bind_eq_some_iff.mp H
     obtain ⟨t722, A830, H⟩ := H
     replace H : (if t722 < 0 then (some false) else (if t722 = t720 then ((laws_toBoard.f kj61 a0_0 a0_1 l0_2).bind fun bt723 => ((laws_toLeaper.f a1_0 a1_1).bind fun bt728 => ((laws_toIntS.f kj61 l2).bind fun t730 => ((impl_NumbersOfWalk.f kj61 bt723.1 bt723.2.1 bt723.2.2 bt728.1 bt728.2 t730).bind fun bt733 => ((laws_eqIntS.f kj61 bt733.1 t685).bind fun t737 => (if t737 = true then (laws_FnExactNumbersOfWalk.j2 kj61 t721 t720 (bt733.2 != t688)) else (laws_FnExactNumbersOfWalk.j2 kj61 t721 t720 true))))))) else (some false))) = some r := H
     have A83 := Aside0.mk A830
     clear A830
     by_cases c84 : t722 < 0
     ·rw [if_pos c84] at H
      have c84b0 : decide (t722 < 0) = true := decide_eq_true c84
      clear c84
      obtain rfl := Option.some.inj H
      obtain ⟨Ao85, co85, eo85⟩ := Kd.R_slice HO_12.out
      subst eo85
      go_wp2_with (first | ((with_reducible refine gate_callee (f := 32) rfl ?_); refine goesL_ (some 89) rfl rfl Try.func32 (by kernel_rfl) rfl #[.slice Ao85 t700.length co85, .int .i64 1] rfl zae3 ?_; (with_reducible refine (laws_markIntS.calls kj61 (fun k_ => some k_ = (.slice Ao85 t700.length co85 : Value).ownBlock) (.slice Ao85 t700.length co85) t700 1 t720 t721 w _ ?side1 ?side2 A82.out).mono ?_); (case side1 => exact zae1); (case side2 => exact Kd.R_tight rfl HO_12.out); rintro e w86 ⟨rfl, hy0, hb, hkp⟩; refine ⟨_, rfl, ?_⟩; have n0_ := Aside0.mk (Kd.R_mono (ok' := fun k_ => some k_ ≠ (.slice Ao85 t700.length co85 : Value).ownBlock ∧ some k_ ≠ (.slice Ao41 t716.length co41 : Value).ownBlock) (Kd.R_keptB (HO_8.out) hkp (fun k_ hk_ hs_ => (hk_.1) hs_)) (fun k_ hk_ => ⟨hk_.1.1, hk_.1.2⟩)); have n1_ := Aside0.mk (Kd.R_reok rfl hy0 (fun k_ e_ => HO_12.out.1 k_ e_)); have n2_ := Aside0.mk (Kd.R_mono (ok' := fun k_ => some k_ ≠ (v686 : Value).ownBlock ∧ some k_ ≠ (.slice Ao85 t700.length co85 : Value).ownBlock) (Kd.R_keptB (HO_695002.out) hkp (fun k_ hk_ hs_ => (hk_.2) hs_)) (fun k_ hk_ => ⟨hk_.1.1, hk_.1.2⟩)); have n3_ := Aside0.mk (blk_kept zae2 hkp (fun hs_ => (fun e_ => (Kd.R_ne HO_12.out BK672.out (by decide)) e_) hs_)); have n4_ := Aside0.mk (blk_kept zae4 hkp (fun hs_ => (fun e_ => (Kd.R_ne HO_12.out BK673.out (by decide)) e_) hs_)); have n5_ := Aside0.mk (blk_kept zae7 hkp (fun hs_ => (fun e_ => (Kd.R_ne HO_12.out BK694.out (by decide)) e_) hs_)); have n6_ := Aside0.mk (hb); clear HO_8; clear HO_12; clear HO_695002; clear BK672; clear BK673; clear BK694; clear HB; have HO_8 := n0_; have HO_12 := n1_; have HO_695002 := n2_; have BK672 := n3_; have BK673 := n4_; have BK694 := n5_; have HB := n6_; clear n0_ n1_ n2_ n3_ n4_ n5_ n6_; (try clear hb); (try clear hkp); (try clear hy0)) | ((with_reducible refine gate_callee (f := 33) rfl ?_); refine goesL_ (some 92) rfl rfl Try.func33 (by kernel_rfl) rfl #[.slice Ao85 t721.length co85, .int .i64 1] rfl zae23 ?_; (with_reducible refine (laws_heldIntS.calls kj61 _ _ t721 1 t722 _ ?side1 ?side2 A83.out).mono ?_); (case side1 => exact zae14); (case side2 => exact zae37); rintro e w' ⟨rfl, ⟨nd, rfl⟩⟩; refine ⟨_, rfl, ?_⟩))
      go_ret
      exact ⟨zae17, zae1⟩
     rw [if_neg c84] at H
     have c84b0 : decide (t722 < 0) = false := decide_eq_false c84
     clear c84
     by_cases c87 : t722 = t720
     rotate_left
     ·rw [if_neg c87] at H
      have c87b0 : (t722 == t720) = false := beq_eq_false_iff_ne.mpr c87
      have c87b1 : (t722 != t720) = true := bne_iff_ne.mpr c87
      obtain rfl := Option.some.inj H
      obtain ⟨Ao112, co112, eo112⟩ := Kd.R_slice HO_12.out
      subst eo112
      go_wp2_with (first | ((with_reducible refine gate_callee (f := 32) rfl ?_); refine goesL_ (some 89) rfl rfl Try.func32 (by kernel_rfl) rfl #[.slice Ao112 t700.length co112, .int .i64 1] rfl zae3 ?_; (with_reducible refine (laws_markIntS.calls kj61 (fun k_ => some k_ = (.slice Ao112 t700.length co112 : Value).ownBlock) (.slice Ao112 t700.length co112) t700 1 t720 t721 w _ ?side1 ?side2 A82.out).mono ?_); (case side1 => exact zae1); (case side2 => exact Kd.R_tight rfl HO_12.out); rintro e w113 ⟨rfl, hy0, hb, hkp⟩; refine ⟨_, rfl, ?_⟩; have n0_ := Aside0.mk (Kd.R_mono (ok' := fun k_ => some k_ ≠ (.slice Ao112 t700.length co112 : Value).ownBlock ∧ some k_ ≠ (.slice Ao41 t716.length co41 : Value).ownBlock) (Kd.R_keptB (HO_8.out) hkp (fun k_ hk_ hs_ => (hk_.1) hs_)) (fun k_ hk_ => ⟨hk_.1.1, hk_.1.2⟩)); have n1_ := Aside0.mk (Kd.R_reok rfl hy0 (fun k_ e_ => HO_12.out.1 k_ e_)); have n2_ := Aside0.mk (Kd.R_mono (ok' := fun k_ => some k_ ≠ (v686 : Value).ownBlock ∧ some k_ ≠ (.slice Ao112 t700.length co112 : Value).ownBlock) (Kd.R_keptB (HO_695002.out) hkp (fun k_ hk_ hs_ => (hk_.2) hs_)) (fun k_ hk_ => ⟨hk_.1.1, hk_.1.2⟩)); have n3_ := Aside0.mk (blk_kept zae2 hkp (fun hs_ => (fun e_ => (Kd.R_ne HO_12.out BK672.out (by decide)) e_) hs_)); have n4_ := Aside0.mk (blk_kept zae4 hkp (fun hs_ => (fun e_ => (Kd.R_ne HO_12.out BK673.out (by decide)) e_) hs_)); have n5_ := Aside0.mk (blk_kept zae7 hkp (fun hs_ => (fun e_ => (Kd.R_ne HO_12.out BK694.out (by decide)) e_) hs_)); have n6_ := Aside0.mk (hb); clear HO_8; clear HO_12; clear HO_695002; clear BK672; clear BK673; clear BK694; clear HB; have HO_8 := n0_; have HO_12 := n1_; have HO_695002 := n2_; have BK672 := n3_; have BK673 := n4_; have BK694 := n5_; have HB := n6_; clear n0_ n1_ n2_ n3_ n4_ n5_ n6_; (try clear hb); (try clear hkp); (try clear hy0)) | ((with_reducible refine gate_callee (f := 33) rfl ?_); refine goesL_ (some 92) rfl rfl Try.func33 (by kernel_rfl) rfl #[.slice Ao112 t721.length co112, .int .i64 1] rfl zae23 ?_; (with_reducible refine (laws_heldIntS.calls kj61 _ _ t721 1 t722 _ ?side1 ?side2 A83.out).mono ?_); (case side1 => exact zae14); (case side2 => exact zae37); rintro e w' ⟨rfl, ⟨nd, rfl⟩⟩; refine ⟨_, rfl, ?_⟩))
      go_ret
      exact ⟨zae17, zae1⟩
     rw [if_pos c87] at H
     have c87b0 : (t722 == t720) = true := beq_iff_eq.mpr c87
     have c87b1 : (t722 != t720) = false := bne_eq_false_iff_eq.mpr c87
     clear c87
     replace H := Option.bind_eq_some_iff.mp H
     obtain ⟨⟨t723, t724, t725⟩, A880, H⟩ := H
     replace H : ((laws_toLeaper.f a1_0 a1_1).bind fun bt728 => ((laws_toIntS.f kj61 l2).bind fun t730 => ((impl_NumbersOfWalk.f kj61 t723 t724 t725 bt728.1 bt728.2 t730).bind fun bt733 => ((laws_eqIntS.f kj61 bt733.1 t685).bind fun t737 => (if t737 = true then (laws_FnExactNumbersOfWalk.j2 kj61 t721 t720 (bt733.2 != t688)) else (laws_FnExactNumbersOfWalk.j2 kj61 t721 t720 true)))))) = some r := H
     have A88 := Aside0.mk A880
     clear A880
     replace H := Option.bind_eq_some_iff.mp H
     obtain ⟨⟨t728, t729⟩, A890, H⟩ := H
     replace H : ((laws_toIntS.f kj61 l2).bind fun t730 => ((impl_NumbersOfWalk.f kj61 t723 t724 t725 t728 t729 t730).bind fun bt733 => ((laws_eqIntS.f kj61 bt733.1 t685).bind fun t737 => (if t737 = true then (laws_FnExactNumbersOfWalk.j2 kj61 t721 t720 (bt733.2 != t688)) else (laws_FnExactNumbersOfWalk.j2 kj61 t721 t720 true))))) = some r := H
     have A89 := Aside0.mk A890
     clear A890
     replace H := Option.bind_eq_some_iff.mp H
     obtain ⟨t730, A900, H⟩ := H
     replace H : ((impl_NumbersOfWalk.f kj61 t723 t724 t725 t728 t729 t730).bind fun bt733 => ((laws_eqIntS.f kj61 bt733.1 t685).bind fun t737 => (if t737 = true then (laws_FnExactNumbersOfWalk.j2 kj61 t721 t720 (bt733.2 != t688)) else (laws_FnExactNumbersOfWalk.j2 kj61 t721 t720 true)))) = some r := H
     have A90 := Aside0.mk A900
     clear A900
     replace H := Option.bind_eq_some_iff.mp H
     obtain ⟨⟨t733, t736⟩, A910, H⟩ := H
     replace H : ((laws_eqIntS.f kj61 t733 t685).bind fun t737 => (if t737 = true then (laws_FnExactNumbersOfWalk.j2 kj61 t721 t720 (t736 != t688)) else (laws_FnExactNumbersOfWalk.j2 kj61 t721 t720 true))) = some r := H
     have A91 := Aside0.mk A910
     clear A910
     have HC92 := Aside0.mk H
     clear H
     obtain ⟨Ao93, co93, eo93⟩ := Kd.R_slice HO_12.out
     subst eo93
     try go_wp2_with (first | ((with_reducible refine gate_callee (f := 32) rfl ?_); refine goesL_ (some 89) rfl rfl Try.func32 (by kernel_rfl) rfl #[.slice Ao93 t700.length co93, .int .i64 1] rfl zae3 ?_; (with_reducible refine (laws_markIntS.calls kj61 (fun k_ => some k_ = (.slice Ao93 t700.length co93 : Value).ownBlock) (.slice Ao93 t700.length co93) t700 1 t720 t721 w _ ?side1 ?side2 A82.out).mono ?_); (case side1 => exact zae1); (case side2 => exact Kd.R_tight rfl HO_12.out); rintro e w94 ⟨rfl, hy0, hb, hkp⟩; refine ⟨_, rfl, ?_⟩; have n0_ := Aside0.mk (Kd.R_mono (ok' := fun k_ => some k_ ≠ (.slice Ao93 t700.length co93 : Value).ownBlock ∧ some k_ ≠ (.slice Ao41 t716.length co41 : Value).ownBlock) (Kd.R_keptB (HO_8.out) hkp (fun k_ hk_ hs_ => (hk_.1) hs_)) (fun k_ hk_ => ⟨hk_.1.1, hk_.1.2⟩)); have n1_ := Aside0.mk (Kd.R_reok rfl hy0 (fun k_ e_ => HO_12.out.1 k_ e_)); have n2_ := Aside0.mk (Kd.R_mono (ok' := fun k_ => some k_ ≠ (v686 : Value).ownBlock ∧ some k_ ≠ (.slice Ao93 t700.length co93 : Value).ownBlock) (Kd.R_keptB (HO_695002.out) hkp (fun k_ hk_ hs_ => (hk_.2) hs_)) (fun k_ hk_ => ⟨hk_.1.1, hk_.1.2⟩)); have n3_ := Aside0.mk (blk_kept zae2 hkp (fun hs_ => (fun e_ => (Kd.R_ne HO_12.out BK672.out (by decide)) e_) hs_)); have n4_ := Aside0.mk (blk_kept zae4 hkp (fun hs_ => (fun e_ => (Kd.R_ne HO_12.out BK673.out (by decide)) e_) hs_)); have n5_ := Aside0.mk (blk_kept zae7 hkp (fun hs_ => (fun e_ => (Kd.R_ne HO_12.out BK694.out (by decide)) e_) hs_)); have n6_ := Aside0.mk (hb); clear HO_8; clear HO_12; clear HO_695002; clear BK672; clear BK673; clear BK694; clear HB; have HO_8 := n0_; have HO_12 := n1_; have HO_695002 := n2_; have BK672 := n3_; have BK673 := n4_; have BK694 := n5_; have HB := n6_; clear n0_ n1_ n2_ n3_ n4_ n5_ n6_; (try clear hb); (try clear hkp); (try clear hy0)) | ((with_reducible refine gate_callee (f := 33) rfl ?_); refine goesL_ (some 92) rfl rfl Try.func33 (by kernel_rfl) rfl #[.slice Ao93 t721.length co93, .int .i64 1] rfl zae23 ?_; (with_reducible refine (laws_heldIntS.calls kj61 _ _ t721 1 t722 _ ?side1 ?side2 A83.out).mono ?_); (case side1 => exact zae14); (case side2 => exact zae37); rintro e w' ⟨rfl, ⟨nd, rfl⟩⟩; refine ⟨_, rfl, ?_⟩))
     (try (rw [drewN_self w94]; generalize hq_ : World.drewN w94 _ = w94; have n0_ : Aside0 (Kd.R (Kd.int .i64) 3 w94 w.heap.size (fun k_ => (some k_ ≠ (v686 : Value).ownBlock ∧ some k_ ≠ (.slice Ao41 t716.length co41 : Value).ownBlock)) (.slice Ao93 t700.length co93) t721) := ⟨by rw [← hq_]; exact zae9⟩; have n1_ : Aside0 (Kd.R (Kd.int .i64) 3 w94 w.heap.size (fun k_ => (some k_ ≠ (v686 : Value).ownBlock ∧ some k_ ≠ (.slice Ao93 t700.length co93 : Value).ownBlock)) (.slice Ao41 t716.length co41) t716) := ⟨by rw [← hq_]; exact zae8⟩; have n2_ : Aside0 (Kd.R (Kd.int .i64) 3 w94 w.heap.size (fun k_ => (some k_ ≠ (.slice Ao93 t700.length co93 : Value).ownBlock ∧ some k_ ≠ (.slice Ao41 t716.length co41 : Value).ownBlock)) v686 t685) := ⟨by rw [← hq_]; exact zae10⟩; have n3_ : Aside0 (w94.heap[gb672]? = some (.cells #[.int .i64 a0_0, .int .i64 a0_1, .slice A0_2 l0_2.length c0_2] 24 (0, 0))) := ⟨by rw [← hq_]; exact zae2⟩; have n4_ : Aside0 (w94.heap[gb673]? = some (.cells #[.int .i64 a1_0, .int .i64 a1_1] 26 (0, 0))) := ⟨by rw [← hq_]; exact zae4⟩; have n5_ : Aside0 (w94.heap[gb694]? = some (.cells #[.int .i64 t689, .int .i64 t690, .slice Ao41 t716.length co41] 30 (0, 0))) := ⟨by rw [← hq_]; exact zae7⟩; have n6_ : Aside0 (Below w.heap.size w w94) := ⟨by rw [← hq_]; exact zae1⟩; clear HO_12 HO_695002 HO_8 BK672 BK673 BK694 HB hq_; have HO_12 := n0_; have HO_695002 := n1_; have HO_8 := n2_; have BK672 := n3_; have BK673 := n4_; have BK694 := n5_; have HB := n6_; clear n0_ n1_ n2_ n3_ n4_ n5_ n6_))
     have n0_ := Aside0.mk (Kd.R_drew HO_8.out)
     have n1_ := Aside0.mk (Kd.R_drew HO_12.out)
     have n2_ := Aside0.mk (Kd.R_drew HO_695002.out)
     have n3_ := Aside0.mk (blk_drew BK672.out)
     have n4_ := Aside0.mk (blk_drew BK673.out)
     have n5_ := Aside0.mk (blk_drew BK694.out)
     have n6_ := Aside0.mk (below_drew1 HB.out)
     clear HO_8
     clear HO_12
     clear HO_695002
     clear BK672
     clear BK673
     clear BK694
     clear HB
     have HO_8 := n0_
     have HO_12 := n1_
     have HO_695002 := n2_
     have BK672 := n3_
     have BK673 := n4_
     have BK694 := n5_
     have HB := n6_
     clear n0_ n1_ n2_ n3_ n4_ n5_ n6_
     refine start_ (n := 12) (S := fun w' => w'.cell? ⟨gb672, 0, none⟩ = some (.int .i64 a0_0) ∧ w'.cell? ⟨gb672, 1, none⟩ = some (.int .i64 a0_1) ∧ w'.cell? ⟨gb672, 2, none⟩ = some (.slice A0_2 l0_2.length c0_2) ∧ w'.cell? ⟨gb673, 0, none⟩ = some (.int .i64 a1_0) ∧ w'.cell? ⟨gb673, 1, none⟩ = some (.int .i64 a1_1)) (ds := []) #[false, false, false, false, false, false, false, false, false, false, false, false] (by kernel_rfl) rfl rfl ⟨(blk_cell BK672.out 0).trans rfl, (blk_cell BK672.out 1).trans rfl, (blk_cell BK672.out 2).trans rfl, (blk_cell BK673.out 0).trans rfl, (blk_cell BK673.out 1).trans rfl⟩ (fun hHeld => ?_); refine with_tabW laws_FnExactNumbersOfWalk.tab30 laws_FnExactNumbersOfWalk.bits30 (fun HT_ HW_ => ?_)
     generalize w94.drew = w95 at HO_8 HO_12 HO_695002 BK672 BK673 BK694 HB hHeld ⊢
     refine pure_ (i := 4) (N := some 103) (v := ?_) (a' := ?_) #[false, false, false, false, true, false, false, false, false, false, false, false] rfl rfl (any_of HT_.out (by kernel_rfl)) (fun _ _ _ h => h) (Or.inl ⟨by rfl, ?_⟩) ?_ ?_
     rotate_left
     ·intro w'
      go_simp
      with_reducible rfl
     rotate_left
     ·simp only [Act.put, List.setIfInBounds_toArray, List.set_cons_zero, List.set_cons_succ, i64_w, i32_w]
      rfl
     refine take_ (i := 0) (N := some 99) (v := ?_) (a' := ?_) #[true, false, false, false, true, false, false, false, false, false, false, false] rfl rfl (take_ofW HT_.out HW_.out (by kernel_rfl)) (fun _ _ _ h => h) (Or.inl ⟨by rfl, ?_⟩) hHeld ?_ ?_
     rotate_left
     ·rintro w' ⟨s0, s1, s2, s3, s4⟩
      go_simp
      with_reducible rfl
     rotate_left
     ·simp only [Act.put, List.setIfInBounds_toArray, List.set_cons_zero, List.set_cons_succ, i64_w, i32_w]
      rfl
     refine take_ (i := 2) (N := some 101) (v := ?_) (a' := ?_) #[true, false, true, false, true, false, false, false, false, false, false, false] rfl rfl (take_ofW HT_.out HW_.out (by kernel_rfl)) (fun _ _ _ h => h) (Or.inl ⟨by rfl, ?_⟩) hHeld ?_ ?_
     rotate_left
     ·rintro w' ⟨s0, s1, s2, s3, s4⟩
      go_simp
      with_reducible rfl
     rotate_left
     ·simp only [Act.put, List.setIfInBounds_toArray, List.set_cons_zero, List.set_cons_succ, i64_w, i32_w]
      rfl
     refine one_ (i := 1) (N := some 100) #[true, true, true, false, true, false, false, false, false, false, false, false] rfl rfl (one_of HT_.out (by kernel_rfl)) (by decide) (fun K hK => ?_)
     refine goes_ Try.func17 (by kernel_rfl) rfl #[.agg #[.int .i64 a0_0, .int .i64 a0_1, .slice A0_2 l0_2.length c0_2]] (by rfl) rfl rfl zae3 ?_
     with_reducible refine (laws_toBoard.calls kj61 a0_0 a0_1 _ _ l0_2 t723 t724 t725 _ ?side1 ?side2 A88.out).mono ?_
     (case side1 => exact zae13)
     (case side2 => exact HC0_2.out)
     rintro e w96 ⟨v726, rfl, ho0, hb⟩
     refine ⟨_, rfl, ?_⟩
     have n0_ := Aside0.mk (Kd.R_elder' zae10 (Kd.R_base ho0) hb)
     have n1_ := Aside0.mk (Kd.R_elder' zae9 (Kd.R_base ho0) hb)
     have n2_ := Aside0.mk (Kd.R_elder' zae8 (Kd.R_base ho0) hb)
     have n3_ := Aside0.mk (Kd.R_lower (Kd.R_new' (Kd.R_new' (Kd.R_new' ho0 (Kd.R_lt zae10)) (Kd.R_lt zae9)) (Kd.R_lt zae8)) (below_size zae1))
     have n4_ := Aside0.mk (blk_below (g := gb672) (o := .cells #[.int .i64 a0_0, .int .i64 a0_1, .slice A0_2 l0_2.length c0_2] 24 (0, 0)) zae2 hb)
     have n5_ := Aside0.mk (blk_below (g := gb673) (o := .cells #[.int .i64 a1_0, .int .i64 a1_1] 26 (0, 0)) zae4 hb)
     have n6_ := Aside0.mk (blk_below (g := gb694) (o := .cells #[.int .i64 t689, .int .i64 t690, .slice Ao41 t716.length co41] 30 (0, 0)) zae7 hb)
     have n7_ := Aside0.mk (below_step zae1 hb)
     clear HO_8
     clear HO_12
     clear HO_695002
     clear BK672
     clear BK673
     clear BK694
     clear HB
     have HO_8 := n0_
     have HO_12 := n1_
     have HO_695002 := n2_
     have HO727 := n3_
     have BK672 := n4_
     have BK673 := n5_
     have BK694 := n6_
     have HB := n7_
     clear n0_ n1_ n2_ n3_ n4_ n5_ n6_ n7_
     (try clear hb)
     (try clear hb2)
     (try clear hk)
     (try clear hi)
     (try clear ho0)
     (try clear hna_)
     (try clear hnb_)
     refine hK.out _ _ ⟨(blk_cell BK672.out 0).trans rfl, (blk_cell BK672.out 1).trans rfl, (blk_cell BK672.out 2).trans rfl, (blk_cell BK673.out 0).trans rfl, (blk_cell BK673.out 1).trans rfl⟩ (fun hHeld => ?_)
     clear hK K
     refine norm_ (a' := ?_) ?_ ?_
     rotate_left
     ·show Act.put _ (some 100) _ = _
      simp only [Act.put, List.setIfInBounds_toArray, List.set_cons_zero, List.set_cons_succ, i64_w, i32_w]
      rfl
     refine one_ (i := 3) (N := some 102) #[true, true, true, true, true, false, false, false, false, false, false, false] rfl rfl (one_of HT_.out (by kernel_rfl)) (by decide) (fun K hK => ?_)
     refine goes_ Try.func18 (by kernel_rfl) rfl #[.agg #[.int .i64 a1_0, .int .i64 a1_1]] (by rfl) rfl rfl zae3 ?_
     with_reducible refine (laws_toLeaper.calls a1_0 a1_1 t728 t729 _ A89.out).mono ?_
     rintro e w97 ⟨rfl, hb⟩
     refine ⟨_, rfl, ?_⟩
     have n0_ := Aside0.mk (Kd.R_below zae10 hb)
     have n1_ := Aside0.mk (Kd.R_below zae9 hb)
     have n2_ := Aside0.mk (Kd.R_below zae8 hb)
     have n3_ := Aside0.mk (Kd.R_below zae28 hb)
     have n4_ := Aside0.mk (blk_below (g := gb672) (o := .cells #[.int .i64 a0_0, .int .i64 a0_1, .slice A0_2 l0_2.length c0_2] 24 (0, 0)) zae2 hb)
     have n5_ := Aside0.mk (blk_below (g := gb673) (o := .cells #[.int .i64 a1_0, .int .i64 a1_1] 26 (0, 0)) zae4 hb)
     have n6_ := Aside0.mk (blk_below (g := gb694) (o := .cells #[.int .i64 t689, .int .i64 t690, .slice Ao41 t716.length co41] 30 (0, 0)) zae7 hb)
     have n7_ := Aside0.mk (below_step zae1 hb)
     clear HO_8
     clear HO_12
     clear HO_695002
     clear HO727
     clear BK672
     clear BK673
     clear BK694
     clear HB
     have HO_8 := n0_
     have HO_12 := n1_
     have HO_695002 := n2_
     have HO727 := n3_
     have BK672 := n4_
     have BK673 := n5_
     have BK694 := n6_
     have HB := n7_
     clear n0_ n1_ n2_ n3_ n4_ n5_ n6_ n7_
     (try clear hb)
     (try clear hb2)
     (try clear hk)
     (try clear hi)
     (try clear hna_)
     (try clear hnb_)
     refine hK.out _ _ ⟨(blk_cell BK672.out 0).trans rfl, (blk_cell BK672.out 1).trans rfl, (blk_cell BK672.out 2).trans rfl, (blk_cell BK673.out 0).trans rfl, (blk_cell BK673.out 1).trans rfl⟩ (fun hHeld => ?_)
     clear hK K
     refine norm_ (a' := ?_) ?_ ?_
     rotate_left
     ·show Act.put _ (some 102) _ = _
      simp only [Act.put, List.setIfInBounds_toArray, List.set_cons_zero, List.set_cons_succ, i64_w, i32_w]
      rfl
     refine one_ (i := 5) (N := some 104) #[true, true, true, true, true, true, false, false, false, false, false, false] rfl rfl (one_of HT_.out (by kernel_rfl)) (by decide) (fun K hK => ?_)
     refine goes_ Try.func19 (by kernel_rfl) rfl #[.slice A2 l2.length c2] (by rfl) rfl rfl zae3 ?_
     with_reducible refine (laws_toIntS.calls kj61 _ _ l2 t730 _ ?side1 ?side2 A90.out).mono ?_
     (case side1 => exact zae21)
     (case side2 => exact HC2.out)
     rintro e w98 ⟨v731, rfl, ho0, hb⟩
     refine ⟨_, rfl, ?_⟩
     have n0_ := Aside0.mk (Kd.R_elder' zae10 (Kd.R_base ho0) hb)
     have n1_ := Aside0.mk (Kd.R_elder' zae9 (Kd.R_base ho0) hb)
     have n2_ := Aside0.mk (Kd.R_elder' zae8 (Kd.R_base ho0) hb)
     have n3_ := Aside0.mk (Kd.R_elder' zae28 (Kd.R_base ho0) hb)
     have n4_ := Aside0.mk (Kd.R_lower (Kd.R_new' (Kd.R_new' (Kd.R_new' (Kd.R_new' ho0 (Kd.R_lt zae10)) (Kd.R_lt zae9)) (Kd.R_lt zae8)) (Kd.R_lt zae28)) (below_size zae1))
     have n5_ := Aside0.mk (blk_below (g := gb672) (o := .cells #[.int .i64 a0_0, .int .i64 a0_1, .slice A0_2 l0_2.length c0_2] 24 (0, 0)) zae2 hb)
     have n6_ := Aside0.mk (blk_below (g := gb673) (o := .cells #[.int .i64 a1_0, .int .i64 a1_1] 26 (0, 0)) zae4 hb)
     have n7_ := Aside0.mk (blk_below (g := gb694) (o := .cells #[.int .i64 t689, .int .i64 t690, .slice Ao41 t716.length co41] 30 (0, 0)) zae7 hb)
     have n8_ := Aside0.mk (below_step zae1 hb)
     clear HO_8
     clear HO_12
     clear HO_695002
     clear HO727
     clear BK672
     clear BK673
     clear BK694
     clear HB
     have HO_8 := n0_
     have HO_12 := n1_
     have HO_695002 := n2_
     have HO727 := n3_
     have HO732 := n4_
     have BK672 := n5_
     have BK673 := n6_
     have BK694 := n7_
     have HB := n8_
     clear n0_ n1_ n2_ n3_ n4_ n5_ n6_ n7_ n8_
     (try clear hb)
     (try clear hb2)
     (try clear hk)
     (try clear hi)
     (try clear ho0)
     (try clear hna_)
     (try clear hnb_)
     obtain ⟨Ao99, co99, eo99⟩ := Kd.R_slice HO727.out
     (first | subst eo99 | (injection eo99 with f1_ f2_ f3_; have f4_ := f1_.symm; have f5_ := f3_.symm; clear f1_ f2_ f3_; subst f4_; subst f5_))
     obtain ⟨Ao100, co100, eo100⟩ := Kd.R_slice HO732.out
     (first | subst eo100 | (injection eo100 with f1_ f2_ f3_; have f4_ := f1_.symm; have f5_ := f3_.symm; clear f1_ f2_ f3_; subst f4_; subst f5_))
     refine hK.out _ _ ⟨(blk_cell BK672.out 0).trans rfl, (blk_cell BK672.out 1).trans rfl, (blk_cell BK672.out 2).trans rfl, (blk_cell BK673.out 0).trans rfl, (blk_cell BK673.out 1).trans rfl⟩ (fun hHeld => ?_)
     clear hK K
     refine norm_ (a' := ?_) ?_ ?_
     rotate_left
     ·show Act.put _ (some 104) _ = _
      simp only [Act.put, List.setIfInBounds_toArray, List.set_cons_zero, List.set_cons_succ, i64_w, i32_w]
      rfl
     refine one_ (i := 6) (N := some 105) #[true, true, true, true, true, true, true, false, false, false, false, false] rfl rfl (one_of HT_.out (by kernel_rfl)) (by decide) (fun K hK => ?_)
     refine goes_ Try.func30 (by kernel_rfl) rfl #[.agg #[.int .i64 t723, .int .i64 t724, .slice Ao99 t725.length co99], .agg #[.int .i64 t728, .int .i64 t729], .slice Ao100 t730.length co100] (by rfl) rfl rfl zae3 ?_
     with_reducible refine (impl_NumbersOfWalk.calls kj61 t723 t724 _ _ t725 t728 t729 _ _ t730 t733 t736 _ ?side1 ?side2 ?side3 ?side4 A91.out).mono ?_
     (case side1 => repeat (first | exact (Kd.R_reads' HO727.out).2.2 | (with_reducible refine Kd.C_alloc ?_ _) | (with_reducible refine Kd.C_drewN ?_ _) | (with_reducible refine Kd.C_drew ?_)))
     (case side2 => exact (Kd.R_reads' HO727.out).2.1)
     (case side3 => repeat (first | exact (Kd.R_reads' HO732.out).2.2 | (with_reducible refine Kd.C_alloc ?_ _) | (with_reducible refine Kd.C_drewN ?_ _) | (with_reducible refine Kd.C_drew ?_)))
     (case side4 => exact (Kd.R_reads' HO732.out).2.1)
     rintro e w101 ⟨v734, rfl, ho0, hb⟩
     refine ⟨_, rfl, ?_⟩
     have n0_ := Aside0.mk (Kd.R_elder' zae10 (Kd.R_base ho0) hb)
     have n1_ := Aside0.mk (Kd.R_elder' zae9 (Kd.R_base ho0) hb)
     have n2_ := Aside0.mk (Kd.R_elder' zae8 (Kd.R_base ho0) hb)
     have n3_ := Aside0.mk (Kd.R_elder' zae28 (Kd.R_base ho0) hb)
     have n4_ := Aside0.mk (Kd.R_elder' (by (with_reducible repeat (first | apply Kd.R_alloc | apply Kd.R_drewN | apply Kd.R_drew)); exact HO732.out) (Kd.R_base ho0) hb)
     have n5_ := Aside0.mk (Kd.R_lower (Kd.R_new' (Kd.R_new' (Kd.R_new' (Kd.R_new' (Kd.R_new' ho0 (Kd.R_lt zae10)) (Kd.R_lt zae9)) (Kd.R_lt zae8)) (Kd.R_lt zae28)) (Kd.R_lt (by (with_reducible repeat (first | apply Kd.R_alloc | apply Kd.R_drewN | apply Kd.R_drew)); exact HO732.out))) (below_size zae1))
     have n6_ := Aside0.mk (blk_below (g := gb672) (o := .cells #[.int .i64 a0_0, .int .i64 a0_1, .slice A0_2 l0_2.length c0_2] 24 (0, 0)) zae2 hb)
     have n7_ := Aside0.mk (blk_below (g := gb673) (o := .cells #[.int .i64 a1_0, .int .i64 a1_1] 26 (0, 0)) zae4 hb)
     have n8_ := Aside0.mk (blk_below (g := gb694) (o := .cells #[.int .i64 t689, .int .i64 t690, .slice Ao41 t716.length co41] 30 (0, 0)) zae7 hb)
     have n9_ := Aside0.mk (below_step zae1 hb)
     clear HO_8
     clear HO_12
     clear HO_695002
     clear HO727
     clear HO732
     clear BK672
     clear BK673
     clear BK694
     clear HB
     have HO_8 := n0_
     have HO_12 := n1_
     have HO_695002 := n2_
     have HO727 := n3_
     have HO732 := n4_
     have HO735 := n5_
     have BK672 := n6_
     have BK673 := n7_
     have BK694 := n8_
     have HB := n9_
     clear n0_ n1_ n2_ n3_ n4_ n5_ n6_ n7_ n8_ n9_
     (try clear hb)
     (try clear hb2)
     (try clear hk)
     (try clear hi)
     (try clear ho0)
     (try clear hna_)
     (try clear hnb_)
     refine hK.out _ _ ⟨(blk_cell BK672.out 0).trans rfl, (blk_cell BK672.out 1).trans rfl, (blk_cell BK672.out 2).trans rfl, (blk_cell BK673.out 0).trans rfl, (blk_cell BK673.out 1).trans rfl⟩ (fun hHeld => ?_)
     clear hK K
     refine norm_ (a' := ?_) ?_ ?_
     rotate_left
     ·show Act.put _ (some 105) _ = _
      simp only [Act.put, List.setIfInBounds_toArray, List.set_cons_zero, List.set_cons_succ, i64_w, i32_w]
      rfl
     refine pure_ (i := 7) (N := some 98) (v := ?_) (a' := ?_) #[true, true, true, true, true, true, true, true, false, false, false, false] rfl rfl (any_of HT_.out (by kernel_rfl)) (fun _ _ _ h => h) (Or.inl ⟨by rfl, ?_⟩) ?_ ?_
     rotate_left
     ·intro w'
      go_simp
      with_reducible rfl
     rotate_left
     ·simp only [Act.put, List.setIfInBounds_toArray, List.set_cons_zero, List.set_cons_succ, i64_w, i32_w]
      rfl
     refine pure_ (i := 8) (N := some 106) (v := ?_) (a' := ?_) #[true, true, true, true, true, true, true, true, true, false, false, false] rfl rfl (any_of HT_.out (by kernel_rfl)) (fun _ _ _ h => h) (Or.inl ⟨by rfl, ?_⟩) ?_ ?_
     rotate_left
     ·intro w'
      go_simp
      with_reducible rfl
     rotate_left
     ·simp only [Act.put, List.setIfInBounds_toArray, List.set_cons_zero, List.set_cons_succ, i64_w, i32_w]
      rfl
     refine pure_ (i := 9) (N := some 107) (v := ?_) (a' := ?_) #[true, true, true, true, true, true, true, true, true, true, false, false] rfl rfl (any_of HT_.out (by kernel_rfl)) (fun _ _ _ h => h) (Or.inl ⟨by rfl, ?_⟩) ?_ ?_
     rotate_left
     ·intro w'
      go_simp
      with_reducible rfl
     rotate_left
     ·simp only [Act.put, List.setIfInBounds_toArray, List.set_cons_zero, List.set_cons_succ, i64_w, i32_w]
      rfl
     refine pure_ (i := 10) (N := some 17) (v := ?_) (a' := ?_) #[true, true, true, true, true, true, true, true, true, true, true, false] rfl rfl (any_of HT_.out (by kernel_rfl)) (fun _ _ _ h => h) (Or.inl ⟨by rfl, ?_⟩) ?_ ?_
     rotate_left
     ·intro w'
      go_simp
      with_reducible rfl
     rotate_left
     ·simp only [Act.put, List.setIfInBounds_toArray, List.set_cons_zero, List.set_cons_succ, i64_w, i32_w]
      rfl
     refine pure_ (i := 11) (N := some 18) (v := ?_) (a' := ?_) #[true, true, true, true, true, true, true, true, true, true, true, true] rfl rfl (any_of HT_.out (by kernel_rfl)) (fun _ _ _ h => h) (Or.inl ⟨by rfl, ?_⟩) ?_ ?_
     rotate_left
     ·intro w'
      go_simp
      with_reducible rfl
     rotate_left
     ·simp only [Act.put, List.setIfInBounds_toArray, List.set_cons_zero, List.set_cons_succ, i64_w, i32_w]
      rfl
     refine done_ (done_of HT_.out (by kernel_rfl)) ?_
     go_upto_region 31 with (fail)
     go_cut [116] (fun v116 wc => ∃ (kq : Nat) (x116_91 : Bool), v116 = .bool x116_91 ∧ Aside0 (laws_FnExactNumbersOfWalk.j2 kq t721 t720 x116_91 = some r) ∧ Aside0 (kq ≤ kj61) ∧ Aside0 (Kd.R (Kd.int .i64) 3 wc w.heap.size (fun k_ => some k_ ≠ ((.slice Ao41 t716.length co41) : Value).ownBlock) (.slice Ao93 t700.length co93) t721) ∧ Aside0 (Kd.R (Kd.int .i64) 3 wc w.heap.size (fun k_ => some k_ ≠ ((.slice Ao93 t700.length co93) : Value).ownBlock) (.slice Ao41 t716.length co41) t716) ∧ Aside0 (wc.heap[gb672]? = some (.cells #[.int .i64 a0_0, .int .i64 a0_1, (.slice A0_2 l0_2.length c0_2)] 24 (0, 0))) ∧ Aside0 (wc.heap[gb673]? = some (.cells #[.int .i64 a1_0, .int .i64 a1_1] 26 (0, 0))) ∧ Aside0 (wc.heap[gb694]? = some (.cells #[.int .i64 t689, .int .i64 t690, (.slice Ao41 t716.length co41)] 30 (0, 0))) ∧ Aside0 (Below w.heap.size w wc))
     case first =>
      have H := HC92.out
      clear HC92
      replace H := Option.bind_eq_some_iff.mp H
      obtain ⟨t737, A1020, H⟩ := H
      replace H : (if t737 = true then (laws_FnExactNumbersOfWalk.j2 kj61 t721 t720 (t736 != t688)) else (laws_FnExactNumbersOfWalk.j2 kj61 t721 t720 true)) = some r := H
      have A102 := Aside0.mk A1020
      clear A1020
      by_cases c103 : t737 = true
      ·subst c103
       have H1 : (laws_FnExactNumbersOfWalk.j2 kj61 t721 t720 (t736 != t688)) = some r := by rw [if_pos rfl] at H; exact H
       clear H
       have H := H1
       clear H1
       have H' := Aside0.mk H
       clear H
       obtain ⟨Ao104, co104, eo104⟩ := Kd.R_slice HO735.out
       subst eo104
       obtain ⟨Ao105, co105, eo105⟩ := Kd.R_slice HO_8.out
       subst eo105
       go_wp2_with (first | ((with_reducible refine gate_callee (f := 22) rfl ?_); refine goesL_ (some 110) rfl rfl Try.func22 (by kernel_rfl) rfl #[.slice Ao104 t733.length co104, .slice Ao105 t685.length co105] rfl zae3 ?_; (with_reducible refine (laws_eqIntS.calls kj61 _ _ t733 _ _ t685 true _ ?side1 ?side2 ?side3 ?side4 A102.out).mono ?_); (case side1 => exact zae45); (case side2 => exact (Kd.R_reads' HO735.out).2.1); (case side3 => exact zae22); (case side4 => exact (Kd.R_reads' HO_8.out).2.1); rintro e w' ⟨rfl, ⟨nd, rfl⟩⟩; refine ⟨_, rfl, ?_⟩))
       go_meet
       case rel => exact ⟨_, ((t736 != t688)), zae35, H', ⟨by have := HJ21.out; have := HJ61.out; first | omega | exact Nat.le_refl _⟩, ⟨zae39⟩, ⟨zae38⟩, ⟨zae51⟩, ⟨zae50⟩, ⟨zae49⟩, ⟨zae1⟩⟩
      replace c103 := Bool.eq_false_iff.mpr c103
      subst c103
      have H1 : (laws_FnExactNumbersOfWalk.j2 kj61 t721 t720 true) = some r := by rw [if_neg (show ¬ (false = true) by decide)] at H; exact H
      clear H
      have H := H1
      clear H1
      have H' := Aside0.mk H
      clear H
      obtain ⟨Ao106, co106, eo106⟩ := Kd.R_slice HO735.out
      subst eo106
      obtain ⟨Ao107, co107, eo107⟩ := Kd.R_slice HO_8.out
      subst eo107
      go_wp2_with (first | ((with_reducible refine gate_callee (f := 22) rfl ?_); refine goesL_ (some 110) rfl rfl Try.func22 (by kernel_rfl) rfl #[.slice Ao106 t733.length co106, .slice Ao107 t685.length co107] rfl zae3 ?_; (with_reducible refine (laws_eqIntS.calls kj61 _ _ t733 _ _ t685 false _ ?side1 ?side2 ?side3 ?side4 A102.out).mono ?_); (case side1 => exact zae45); (case side2 => exact (Kd.R_reads' HO735.out).2.1); (case side3 => exact zae22); (case side4 => exact (Kd.R_reads' HO_8.out).2.1); rintro e w' ⟨rfl, ⟨nd, rfl⟩⟩; refine ⟨_, rfl, ?_⟩))
      go_meet
      case rel => exact ⟨_, (true), zae35, H', ⟨by have := HJ21.out; have := HJ61.out; first | omega | exact Nat.le_refl _⟩, ⟨zae39⟩, ⟨zae38⟩, ⟨zae51⟩, ⟨zae50⟩, ⟨zae49⟩, ⟨zae1⟩⟩
     case rest =>
      clear HC92
      try clear c1; try clear c2; try clear p2; try clear c3; try clear c4; try clear c4b0; try clear c4b1; try clear c5; try clear c6; try clear c7; try clear c8; try clear c8b0; try clear c10; try clear c11; try clear c15; try clear c17; try clear c18; try clear c19; try clear c21; try clear c22; try clear c25; try clear c29; try clear c30; try clear c31; try clear c32; try clear c33; try clear c38; try clear c39; try clear c48; try clear c53; try clear c56; try clear c59; try clear c69; try clear c70; try clear c74; try clear c74b0; try clear c76; try clear c81; try clear c84; try clear c84b0; try clear c87
      try clear c87b0; try clear c87b1; try clear c103; try clear hcz12_0; try clear hcz12_1; try clear hcz12_2; try clear hcz26_0; try clear hcz26_1; try clear hcz26_2; try clear hcz35_0; try clear hcz35_1; try clear hcz35_2; try clear hcz40_0; try clear hcz40_1; try clear hcz40_2; try clear hcz71_0; try clear hcz71_1; try clear hcz71_2; try clear hfz12_0; try clear hfz12_1; try clear hfz12_2; try clear hfz26_0; try clear hfz26_1; try clear hfz26_2; try clear hfz35_0; try clear hfz35_1; try clear hfz35_2; try clear hfz40_0; try clear hfz40_1; try clear hfz40_2; try clear hfz71_0; try clear hfz71_1; try clear hfz71_2
      try clear p2
      obtain ⟨kq, x116_91, rfl, HA, HJ91, HO_12, HO_695002, BK672, BK673, BK694, HB⟩ := hcut
      have hl12_91 := (Kd.R_reads' HO_12.out).1
      rw [hl12_91] at HO_12
      (try simp only [hl12_91])
      (try simp only [hl12_91] at BK672)
      (try simp only [hl12_91] at BK673)
      (try simp only [hl12_91] at BK694)
      (try simp only [hl12_91] at HO_695002)
      cases kq with
      | zero => exact absurd HA.out (by simp [laws_FnExactNumbersOfWalk.j2])
      | succ kj91 =>
       have H := HA.out
       clear HA
       simp only [laws_FnExactNumbersOfWalk.j2] at H
       by_cases c108 : x116_91 = true
       ·subst c108
        have H1 : (some false) = some r := by rw [if_pos rfl] at H; exact H
        clear H
        have H := H1
        clear H1
        obtain rfl := Option.some.inj H
        go_wp2
        go_ret
        exact ⟨zae17, zae1⟩
       replace c108 := Bool.eq_false_iff.mpr c108
       subst c108
       have H1 : ((laws_heldIntS.f kj91 t721 1).bind fun t738 => (if t738 < 0 then (some false) else (if t738 = t720 then (some true) else (some false)))) = some r := by rw [if_neg (show ¬ (false = true) by decide)] at H; exact H
       clear H
       have H := H1
       clear H1
       replace H := Option.bind_eq_some_iff.mp H
       obtain ⟨t738, A1090, H⟩ := H
       replace H : (if t738 < 0 then (some false) else (if t738 = t720 then (some true) else (some false))) = some r := H
       have A109 := Aside0.mk A1090
       clear A1090
       by_cases c110 : t738 < 0
       ·rw [if_pos c110] at H
        have c110b0 : decide (t738 < 0) = true := decide_eq_true c110
        clear c110
        obtain rfl := Option.some.inj H
        go_wp2_with (first | ((with_reducible refine gate_callee (f := 33) rfl ?_); refine goesL_ (some 119) rfl rfl Try.func33 (by kernel_rfl) rfl #[.slice Ao93 t721.length co93, .int .i64 1] rfl zae3 ?_; (with_reducible refine (laws_heldIntS.calls kj91 _ _ t721 1 t738 _ ?side1 ?side2 A109.out).mono ?_); (case side1 => exact zae14); (case side2 => exact (Kd.R_reads' HO_12.out).2.1); rintro e w' ⟨rfl, ⟨nd, rfl⟩⟩; refine ⟨_, rfl, ?_⟩))
        go_ret
        exact ⟨zae17, zae1⟩
       rw [if_neg c110] at H
       have c110b0 : decide (t738 < 0) = false := decide_eq_false c110
       clear c110
       by_cases c111 : t738 = t720
       rotate_left
       ·rw [if_neg c111] at H
        have c111b0 : (t738 == t720) = false := beq_eq_false_iff_ne.mpr c111
        have c111b1 : (t738 != t720) = true := bne_iff_ne.mpr c111
        obtain rfl := Option.some.inj H
        go_wp2_with (first | ((with_reducible refine gate_callee (f := 33) rfl ?_); refine goesL_ (some 119) rfl rfl Try.func33 (by kernel_rfl) rfl #[.slice Ao93 t721.length co93, .int .i64 1] rfl zae3 ?_; (with_reducible refine (laws_heldIntS.calls kj91 _ _ t721 1 t738 _ ?side1 ?side2 A109.out).mono ?_); (case side1 => exact zae14); (case side2 => exact (Kd.R_reads' HO_12.out).2.1); rintro e w' ⟨rfl, ⟨nd, rfl⟩⟩; refine ⟨_, rfl, ?_⟩))
        go_ret
        exact ⟨zae17, zae1⟩
       rw [if_pos c111] at H
       have c111b0 : (t738 == t720) = true := beq_iff_eq.mpr c111
       have c111b1 : (t738 != t720) = false := bne_eq_false_iff_eq.mpr c111
       clear c111
       obtain rfl := Option.some.inj H
       go_wp2_with (first | ((with_reducible refine gate_callee (f := 33) rfl ?_); refine goesL_ (some 119) rfl rfl Try.func33 (by kernel_rfl) rfl #[.slice Ao93 t721.length co93, .int .i64 1] rfl zae3 ?_; (with_reducible refine (laws_heldIntS.calls kj91 _ _ t721 1 t738 _ ?side1 ?side2 A109.out).mono ?_); (case side1 => exact zae14); (case side2 => exact (Kd.R_reads' HO_12.out).2.1); rintro e w' ⟨rfl, ⟨nd, rfl⟩⟩; refine ⟨_, rfl, ?_⟩))
       go_ret
       exact ⟨zae17, zae1⟩

end Go.Proofs.Ythoklbeenjppbaa.Q

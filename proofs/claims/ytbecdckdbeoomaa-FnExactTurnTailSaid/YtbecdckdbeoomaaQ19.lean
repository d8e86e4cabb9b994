/- Written by a program of this session: functions of the translation as plain Lean functions, each with a proof that the call does what the plain function says; the conditions stand in each theorem. -/
import Derived.Test.YtbecdckdbeoomaaQ0
import Derived.Test.YtbecdckdbeoomaaQ1
import Derived.Test.YtbecdckdbeoomaaQ2
import Derived.Test.YtbecdckdbeoomaaQ5
import Derived.Test.YtbecdckdbeoomaaQ16
import Derived.Test.YtbecdckdbeoomaaQ17
import Derived.Test.YtbecdckdbeoomaaQ18
namespace Go.Proofs.Ytbecdckdbeoomaa.Q
open Go.RowKit Go.Proofs.YtbecdckdbeoomaaW.PrintWords Go.Proofs.YtbecdckdbeoomaaW.PrintLast Go.Proofs.YtbecdckdbeoomaaW.PrintMore
attribute [local go_sem] max2_int min2_int max_two min_two max_three min_three max_four min_four   -- for this text's walks alone
set_option linter.unusedVariables false
set_option linter.unusedSimpArgs false

theorem zt1 {p : Prop} (h : p := by repeat (first | (with_reducible first | exact HB.out | apply below_alloc | apply pw_below_drewN | apply below_drew1 | refine below_set ?_ GE443.out | refine below_set ?_ GE444.out | refine below_set ?_ GE465.out) | exact HB.out)) : p := h
theorem zt2 {p : Prop} (h : p := by first | exact BK443.out | ((with_reducible repeat (first | refine blk_drewN ?_ _ | refine blk_drew ?_ | refine blk_alloc ?_ _)); exact BK443.out)) : p := h
theorem zt3 {p : Prop} (h : p := by (try simp only [List.map_toArray, List.map_cons, List.map_nil]); first | done | rfl | (simp only [List.length_drop, List.length_take]; rfl)) : p := h
theorem zt4 {p : Prop} (h : p := by first | exact BK444.out | ((with_reducible repeat (first | refine blk_drewN ?_ _ | refine blk_drew ?_ | refine blk_alloc ?_ _)); exact BK444.out)) : p := h
theorem zt5 {p : Prop} (h : p := by repeat (first | (with_reducible first | exact HB.out | apply below_alloc | apply pw_below_drewN | apply below_drew1 | refine below_set ?_ GE443.out | refine below_set ?_ GE444.out) | exact HB.out)) : p := h
theorem zt6 {p : Prop} (h : p := by first | exact BK465.out | ((with_reducible repeat (first | refine blk_drewN ?_ _ | refine blk_drew ?_ | refine blk_alloc ?_ _)); exact BK465.out)) : p := h
theorem zt7 {p : Prop} (h : p := by first | exact HO_466002.out | ((with_reducible repeat (first | apply Kd.R_alloc | apply Kd.R_drewN | apply Kd.R_drew)); exact HO_466002.out)) : p := h
theorem zt8 {p : Prop} (h : p := by first | exact HO_14.out | ((with_reducible repeat (first | apply Kd.R_alloc | apply Kd.R_drewN | apply Kd.R_drew)); exact HO_14.out)) : p := h
theorem zt9 {p : Prop} (h : p := by first | exact HO_10.out | ((with_reducible repeat (first | apply Kd.R_alloc | apply Kd.R_drewN | apply Kd.R_drew)); exact HO_10.out)) : p := h
theorem zt10 {p : Prop} (h : p := by repeat (first | (with_reducible first | exact HB.out | apply below_alloc | apply pw_below_drewN | apply below_drew1 | refine below_set ?_ GE443.out) | exact HB.out)) : p := h
theorem zt11 {p : Prop} (h : p := by first | exact HO_13.out | ((with_reducible repeat (first | apply Kd.R_alloc | apply Kd.R_drewN | apply Kd.R_drew)); exact HO_13.out)) : p := h
theorem zt12 {p : Prop} (h : p := by repeat (first | exact (Kd.C_below HR0_2.out HB.out) | (with_reducible refine Kd.C_alloc ?_ _) | (with_reducible refine Kd.C_drewN ?_ _) | (with_reducible refine Kd.C_drew ?_))) : p := h
theorem zt13 {p : Prop} (h : p := by repeat (first | exact (Kd.R_reads' HO_14.out).2.2 | (with_reducible refine Kd.C_alloc ?_ _) | (with_reducible refine Kd.C_drewN ?_ _) | (with_reducible refine Kd.C_drew ?_))) : p := h
theorem zt14 {p : Prop} (h : p := by repeat (first | (with_reducible first | exact HB.out | apply below_alloc | apply pw_below_drewN | apply below_drew1) | exact HB.out)) : p := h
theorem zt15 {p : Prop} (h : p := by first | exact HO450.out | ((with_reducible repeat (first | apply Kd.R_alloc | apply Kd.R_drewN | apply Kd.R_drew)); exact HO450.out)) : p := h
theorem zt16 {p : Prop} (h : p := by first | rfl | (simp [errW_none, errW_some] <;> rfl) | (simp [*, errW_none, errW_some] <;> rfl)) : p := h
theorem zt17 {p : Prop} (h : p := by first | exact HO455.out | ((with_reducible repeat (first | apply Kd.R_alloc | apply Kd.R_drewN | apply Kd.R_drew)); exact HO455.out)) : p := h
theorem zt18 {p : Prop} (h : p := by first | exact HO480.out | ((with_reducible repeat (first | apply Kd.R_alloc | apply Kd.R_drewN | apply Kd.R_drew)); exact HO480.out)) : p := h
theorem zt19 {p : Prop} (h : p := by first | exact HO458.out | ((with_reducible repeat (first | apply Kd.R_alloc | apply Kd.R_drewN | apply Kd.R_drew)); exact HO458.out)) : p := h
theorem zt20 {p : Prop} (h : p := by repeat (first | exact (Kd.R_reads' HO_10.out).2.2 | (with_reducible refine Kd.C_alloc ?_ _) | (with_reducible refine Kd.C_drewN ?_ _) | (with_reducible refine Kd.C_drew ?_))) : p := h
theorem zt21 {p : Prop} (h : p := by repeat (first | exact (Kd.C_below HR2.out HB.out) | (with_reducible refine Kd.C_alloc ?_ _) | (with_reducible refine Kd.C_drewN ?_ _) | (with_reducible refine Kd.C_drew ?_))) : p := h
theorem zt22 {p : Prop} (h : p := by (try simp only [List.map_toArray, List.map_cons, List.map_nil]); first | done | (rw [show t492.length = t471.length from (Kd.R_reads' HO_14.out).1.symm] <;> rfl) | rfl | (simp only [List.length_drop, List.length_take]; rfl)) : p := h
theorem zt23 {p : Prop} (h : p := by (with_reducible repeat (first | apply Kd.R_alloc | apply Kd.R_drewN | apply Kd.R_drew)); exact (Kd.R_mono (Kd.R_far (p := ⟨gb465, 2, none⟩) (Kd.R_far (p := ⟨gb465, 1, none⟩) (Kd.R_far (p := ⟨gb465, 0, none⟩) (Kd.R_types HO464.out BK465.out (by decide)) (fun _ hk => hk.2) (.int .i64 t460)) (fun _ hk => hk.2) (.int .i64 t461)) (fun _ hk => hk.2) (.slice Ao42 t462.length co42)) (fun _ h_ => h_.1))) : p := h
theorem zt24 {p : Prop} (h : p := by (with_reducible repeat (first | apply Kd.R_alloc | apply Kd.R_drewN | apply Kd.R_drew)); exact (Kd.R_mono (Kd.R_far (p := ⟨gb465, 2, none⟩) (Kd.R_far (p := ⟨gb465, 1, none⟩) (Kd.R_far (p := ⟨gb465, 0, none⟩) (Kd.R_types HO458.out BK465.out (by decide)) (fun _ hk => hk.2) (.int .i64 t460)) (fun _ hk => hk.2) (.int .i64 t461)) (fun _ hk => hk.2) (.slice Ao42 t462.length co42)) (fun _ h_ => h_.1))) : p := h
theorem zt25 {p : Prop} (h : p := by (with_reducible repeat (first | apply Kd.R_alloc | apply Kd.R_drewN | apply Kd.R_drew)); exact (Kd.R_mono (Kd.R_far (p := ⟨gb465, 2, none⟩) (Kd.R_far (p := ⟨gb465, 1, none⟩) (Kd.R_far (p := ⟨gb465, 0, none⟩) (Kd.R_types HO455.out BK465.out (by decide)) (fun _ hk => hk.2) (.int .i64 t460)) (fun _ hk => hk.2) (.int .i64 t461)) (fun _ hk => hk.2) (.slice Ao42 t462.length co42)) (fun _ h_ => h_.1))) : p := h
theorem zt26 {p : Prop} (h : p := by (with_reducible repeat (first | apply Kd.R_alloc | apply Kd.R_drewN | apply Kd.R_drew)); exact (Kd.R_mono (Kd.R_far (p := ⟨gb465, 2, none⟩) (Kd.R_far (p := ⟨gb465, 1, none⟩) (Kd.R_far (p := ⟨gb465, 0, none⟩) (Kd.R_types HO450.out BK465.out (by decide)) (fun _ hk => hk.2) (.int .i64 t460)) (fun _ hk => hk.2) (.int .i64 t461)) (fun _ hk => hk.2) (.slice Ao42 t462.length co42)) (fun _ h_ => h_.1))) : p := h
theorem zt27 {p : Prop} (h : p := by first | exact HO498.out | ((with_reducible repeat (first | apply Kd.R_alloc | apply Kd.R_drewN | apply Kd.R_drew)); exact HO498.out)) : p := h
theorem zt28 {p : Prop} (h : p := by repeat (first | exact (Kd.R_reads' HO_466002.out).2.2 | (with_reducible refine Kd.C_alloc ?_ _) | (with_reducible refine Kd.C_drewN ?_ _) | (with_reducible refine Kd.C_drew ?_))) : p := h
theorem zt29 {p : Prop} (h : p := by repeat (first | exact (Kd.R_reads' HO480.out).2.2 | (with_reducible refine Kd.C_alloc ?_ _) | (with_reducible refine Kd.C_drewN ?_ _) | (with_reducible refine Kd.C_drew ?_))) : p := h
theorem zt30 {p : Prop} (h : p := by first | exact HO464.out | ((with_reducible repeat (first | apply Kd.R_alloc | apply Kd.R_drewN | apply Kd.R_drew)); exact HO464.out)) : p := h
theorem zt31 {p : Prop} (h : p := by (with_reducible repeat (first | apply Kd.R_alloc | apply Kd.R_drewN | apply Kd.R_drew)); exact Kd.R_mono HO_466002.out (fun _ hk => ⟨hk.1, hk.2.2.1⟩)) : p := h
theorem zt32 {p : Prop} (h : p := by (with_reducible repeat (first | apply Kd.R_alloc | apply Kd.R_drewN | apply Kd.R_drew)); exact Kd.R_mono HO_10.out (fun _ hk => ⟨hk.2.1, hk.2.2.1⟩)) : p := h
theorem zt33 {p : Prop} (h : p := by (with_reducible repeat (first | apply Kd.R_alloc | apply Kd.R_drewN | apply Kd.R_drew)); exact Kd.R_mono HO_14.out (fun _ hk => ⟨hk.1, hk.2.2.1⟩)) : p := h
theorem zt34 {p : Prop} (h : p := by first | rfl | (simp; done) | (simp [*]; done)) : p := h
theorem zt35 {p : Prop} (h : p := by first | exact HO468.out | ((with_reducible repeat (first | apply Kd.R_alloc | apply Kd.R_drewN | apply Kd.R_drew)); exact HO468.out)) : p := h
theorem zt36 {p : Prop} (h : p := by rw [show t492.length = t471.length from (Kd.R_reads' HO_14.out).1.symm]; exact (Kd.R_reads' HO_14.out).2.1) : p := h
theorem zt37 {p : Prop} (h : p := by (try simp only [hl466002_62]); (with_reducible repeat (first | apply Kd.R_alloc | apply Kd.R_drewN | apply Kd.R_drew)); exact Kd.R_mono HO_466002.out (fun _ hk => hk.1.1.1.2)) : p := h
theorem zt38 {p : Prop} (h : p := by (try simp only [hl466002_62]); (with_reducible repeat (first | apply Kd.R_alloc | apply Kd.R_drewN | apply Kd.R_drew)); exact Kd.R_mono HO_14.out (fun _ hk => hk.1.1.1.2)) : p := h
theorem zt39 {p : Prop} (h : p := by (with_reducible repeat (first | apply Kd.R_alloc | apply Kd.R_drewN | apply Kd.R_drew)); exact Kd.R_mono HO473.out (fun _ hk => ⟨hk.1.1.2, ⟨hk.2, hk.1.2⟩⟩)) : p := h
theorem zt40 {p : Prop} (h : p := by (with_reducible repeat (first | apply Kd.R_alloc | apply Kd.R_drewN | apply Kd.R_drew)); exact Kd.R_mono HO468.out (fun _ hk => ⟨hk.1.1.2, ⟨hk.2, hk.1.2⟩⟩)) : p := h
theorem zt41 {p : Prop} (h : p := by (with_reducible repeat (first | apply Kd.R_alloc | apply Kd.R_drewN | apply Kd.R_drew)); exact Kd.R_mono HO464.out (fun _ hk => ⟨hk.1.1.2, ⟨hk.1.2, hk.2⟩⟩)) : p := h
theorem zt42 {p : Prop} (h : p := by (with_reducible repeat (first | apply Kd.R_alloc | apply Kd.R_drewN | apply Kd.R_drew)); exact Kd.R_mono HO458.out (fun _ hk => ⟨hk.1.2, ⟨hk.2, hk.1.1.2⟩⟩)) : p := h
theorem zt43 {p : Prop} (h : p := by repeat (first | exact (Kd.R_reads' HO_13.out).2.2 | (with_reducible refine Kd.C_alloc ?_ _) | (with_reducible refine Kd.C_drewN ?_ _) | (with_reducible refine Kd.C_drew ?_))) : p := h
theorem zt44 {p : Prop} (h : p := by repeat (first | exact (Kd.R_reads' HO506.out).2.2 | (with_reducible refine Kd.C_alloc ?_ _) | (with_reducible refine Kd.C_drewN ?_ _) | (with_reducible refine Kd.C_drew ?_))) : p := h
theorem zt45 {p : Prop} (h : p := by repeat (first | exact (Kd.R_reads' HO484.out).2.2 | (with_reducible refine Kd.C_alloc ?_ _) | (with_reducible refine Kd.C_drewN ?_ _) | (with_reducible refine Kd.C_drew ?_))) : p := h
theorem zt46 {p : Prop} (h : p := by repeat (first | exact (Kd.R_reads' HO473.out).2.2 | (with_reducible refine Kd.C_alloc ?_ _) | (with_reducible refine Kd.C_drewN ?_ _) | (with_reducible refine Kd.C_drew ?_))) : p := h
theorem zt47 {p : Prop} (h : p := by repeat (first | exact (Kd.R_reads' HO458.out).2.2 | (with_reducible refine Kd.C_alloc ?_ _) | (with_reducible refine Kd.C_drewN ?_ _) | (with_reducible refine Kd.C_drew ?_))) : p := h
theorem zt48 {p : Prop} (h : p := by (try simp only [hl466002_62]); first | exact BK465.out | ((with_reducible repeat (first | refine blk_drewN ?_ _ | refine blk_drew ?_ | refine blk_alloc ?_ _)); exact BK465.out)) : p := h
theorem zt49 {p : Prop} (h : p := by (try simp only [hl466002_62]); first | exact BK444.out | ((with_reducible repeat (first | refine blk_drewN ?_ _ | refine blk_drew ?_ | refine blk_alloc ?_ _)); exact BK444.out)) : p := h
theorem zt50 {p : Prop} (h : p := by (try simp only [hl466002_62]); first | exact BK443.out | ((with_reducible repeat (first | refine blk_drewN ?_ _ | refine blk_drew ?_ | refine blk_alloc ?_ _)); exact BK443.out)) : p := h
theorem zt51 {p : Prop} (h : p := by rw [hg]; exact Nat.ne_of_lt (blk_lt (g := gb443) (o := .cells #[.int .i64 a0_0, .int .i64 a0_1, .slice A0_2 l0_2.length c0_2] 24 (0, 0)) zt2)) : p := h
theorem zt52 {p : Prop} (h : p := by rw [hg]; exact Nat.ne_of_gt (blk_lt (g := gb443) (o := .cells #[.int .i64 a0_0, .int .i64 a0_1, .slice A0_2 l0_2.length c0_2] 24 (0, 0)) zt2)) : p := h
theorem zt53 {p : Prop} (h : p := by rw [hg]; exact (below_size zt14)) : p := h
theorem zt54 {p : Prop} (h : p := by rw [hg]; exact (below_size zt10)) : p := h
/-! ### laws_FnExactTurnTail: function 4 -/
mutual
def laws_FnExactTurnTail.j0 : Nat → List Int → Int → List Int → Bool → List Int → List Int → Bool → Bool → Int → Int → List Int → Int → Int → Int → Int → List Int → Option (Bool)
 | 0, _, _, _, _, _, _, _, _, _, _, _, _, _, _, _, _ => none
 | k + 1, x2, x3, x10, x11, x13, x14, x15, x61, x444000, x444001, x444002, x445000, x445001, x466000, x466001, x466002 => if x61 = true then (some false) else ((laws_toBoard.f k x444000 x444001 x444002).bind fun bt476 => ((laws_eqBoard.f k x466000 x466001 x466002 bt476.1 bt476.2.1 bt476.2.2).bind fun t481 => (if t481 = true then ((laws_toIntS.f k x2).bind fun t482 => ((laws_eqIntS.f k x13 t482).bind fun t485 => (if t485 = true then ((laws_markBoard.f k x466000 x466001 x466002 1).bind fun bt486 => ((laws_markIntS.f k x13 bt486.1).bind fun bt488 => (if bt488.1 < 0 then (laws_FnExactTurnTail.j1 k x2 x3 x10 x11 x14 true x444000 x444001 x444002 x445000 x445001) else ((laws_eqIntS.f k x14 x10).bind fun t490 => (if t490 = true then (laws_FnExactTurnTail.j1 k x2 x3 x10 x11 x14 (x15 != x11) x444000 x444001 x444002 x445000 x445001) else (laws_FnExactTurnTail.j1 k x2 x3 x10 x11 x14 true x444000 x444001 x444002 x445000 x445001)))))) else (some false)))) else (some false))))
def laws_FnExactTurnTail.j1 : Nat → List Int → Int → List Int → Bool → List Int → Bool → Int → Int → List Int → Int → Int → Option (Bool)
 | 0, _, _, _, _, _, _, _, _, _, _, _ => none
 | k + 1, x2, x3, x10, x11, x14, x90, x444000, x444001, x444002, x445000, x445001 => if x90 = true then (some false) else ((laws_markIntS.f k x14 1).bind fun bt491 => ((laws_heldIntS.f k bt491.2 1).bind fun t493 => (if t493 < 0 then (some false) else (if t493 = bt491.1 then ((laws_toBoard.f k x444000 x444001 x444002).bind fun bt494 => ((laws_toLeaper.f x445000 x445001).bind fun bt499 => ((laws_toIntS.f k x2).bind fun t501 => ((impl_TurnTail.f k bt494.1 bt494.2.1 bt494.2.2 bt499.1 bt499.2 t501 x3).bind fun bt504 => ((laws_eqIntS.f k bt504.1 x10).bind fun t508 => (if t508 = true then (laws_FnExactTurnTail.j2 k bt491.2 bt491.1 (bt504.2 != x11)) else (laws_FnExactTurnTail.j2 k bt491.2 bt491.1 true))))))) else (some false)))))
def laws_FnExactTurnTail.j2 : Nat → List Int → Int → Bool → Option (Bool)
 | 0, _, _, _ => none
 | k + 1, x14, x17, x121 => if x121 = true then (some false) else ((laws_heldIntS.f k x14 1).bind fun t509 => (if t509 < 0 then (some false) else (if t509 = x17 then (some true) else (some false))))
end
def laws_FnExactTurnTail.f (k : Nat) (a0_0 : Int) (a0_1 : Int) (l0_2 : List Int) (a1_0 : Int) (a1_1 : Int) (l2 : List Int) (a3 : Int) : Option (Bool) := if (l2.length : Int) > 1048576 then (some true) else ((laws_szBoard.f a0_0 a0_1 l0_2 1048576).bind fun t445 => (if t445 < 0 then (some true) else ((laws_toBoard.f k a0_0 a0_1 l0_2).bind fun bt446 => ((laws_toLeaper.f a1_0 a1_1).bind fun bt451 => ((laws_toIntS.f k l2).bind fun t453 => ((spec_TurnTail.f k bt446.1 bt446.2.1 bt446.2.2 bt451.1 bt451.2 t453 a3).bind fun bt456 => ((laws_toBoard.f k a0_0 a0_1 l0_2).bind fun bt460 => ((laws_toIntS.f k l2).bind fun t466 => ((laws_toLeaper.f a1_0 a1_1).bind fun bt469 => ((impl_TurnTail.f k bt460.1 bt460.2.1 bt460.2.2 bt469.1 bt469.2 t466 a3).bind fun bt471 => ((laws_eqIntS.f k bt471.1 bt456.1).bind fun t475 => (if t475 = true then (laws_FnExactTurnTail.j0 k l2 a3 bt456.1 bt456.2 t466 bt471.1 bt471.2 (bt471.2 != bt456.2) a0_0 a0_1 l0_2 a1_0 a1_1 bt460.1 bt460.2.1 bt460.2.2) else (laws_FnExactTurnTail.j0 k l2 a3 bt456.1 bt456.2 t466 bt471.1 bt471.2 true a0_0 a0_1 l0_2 a1_0 a1_1 bt460.1 bt460.2.1 bt460.2.2)))))))))))))
def laws_FnExactTurnTail.T7 : Bool × List (List Nat × List Nat) := (true, [([], []), ([0], [0]), ([], []), ([2, 1], [2]), ([], []), ([4, 3], [4]), ([], []), ([1, 3, 5, 6, 5], [1, 3, 5, 6]), ([7], [7]), ([8], [8]), ([8], [8]), ([9, 7, 0, 1, 2, 3, 4, 5, 6, 7, 8, 9], [9]), ([10, 11, 0, 1, 2, 3, 4, 5, 6, 7, 8, 9, 10, 11], [10])])
def laws_FnExactTurnTail.B7 : List Nat := [0, 1, 0, 7, 0, 31, 0, 127, 255, 511, 511, 1023, 4095]
theorem laws_FnExactTurnTail.tab7 : rtab .any (opsOf Try.f4 7) = laws_FnExactTurnTail.T7 := by kernel_rfl
theorem laws_FnExactTurnTail.bits7 : waitsOk laws_FnExactTurnTail.T7.2 laws_FnExactTurnTail.B7 = true := by kernel_rfl
def laws_FnExactTurnTail.T10 : Bool × List (List Nat × List Nat) := (true, [([], []), ([], []), ([1], [1]), ([], []), ([], []), ([0, 2, 3, 4, 2], [0, 2, 3, 4]), ([5], [5]), ([6], [6]), ([6], [6]), ([7, 5, 0, 1, 2, 3, 4, 5, 6, 7], [7]), ([8, 9, 0, 1, 2, 3, 4, 5, 6, 7, 8, 9], [8])])
def laws_FnExactTurnTail.B10 : List Nat := [0, 0, 2, 0, 0, 31, 63, 127, 127, 255, 1023]
theorem laws_FnExactTurnTail.tab10 : rtab .any (opsOf Try.f4 10) = laws_FnExactTurnTail.T10 := by kernel_rfl
theorem laws_FnExactTurnTail.bits10 : waitsOk laws_FnExactTurnTail.T10.2 laws_FnExactTurnTail.B10 = true := by kernel_rfl
def laws_FnExactTurnTail.T30 : Bool × List (List Nat × List Nat) := (true, [([], []), ([0], [0]), ([], []), ([2, 1], [2]), ([], []), ([4, 3], [4]), ([], []), ([1, 3, 5, 6, 5], [1, 3, 5, 6]), ([7], [7]), ([8], [8]), ([8], [8]), ([9, 7, 0, 1, 2, 3, 4, 5, 6, 7, 8, 9], [9]), ([10, 11, 0, 1, 2, 3, 4, 5, 6, 7, 8, 9, 10, 11], [10])])
def laws_FnExactTurnTail.B30 : List Nat := [0, 1, 0, 7, 0, 31, 0, 127, 255, 511, 511, 1023, 4095]
theorem laws_FnExactTurnTail.tab30 : rtab .any (opsOf Try.f4 30) = laws_FnExactTurnTail.T30 := by kernel_rfl
theorem laws_FnExactTurnTail.bits30 : waitsOk laws_FnExactTurnTail.T30.2 laws_FnExactTurnTail.B30 = true := by kernel_rfl
set_option maxHeartbeats 8000000 in
set_option maxRecDepth 100000 in
theorem laws_FnExactTurnTail.calls (k : Nat) (a0_0 : Int) (a0_1 : Int) (A0_2 : Option Addr) (c0_2 : Nat) (l0_2 : List Int) (a1_0 : Int) (a1_1 : Int) (A2 : Option Addr) (c2 : Nat) (l2 : List Int) (a3 : Int) (r : Bool) (w : World) (hr0_2 : Kd.C (Kd.int .i64) w A0_2 l0_2.length l0_2) (hc0_2 : l0_2.length ≤ c0_2) (hr2 : Kd.C (Kd.int .i64) w A2 l2.length l2) (hc2 : l2.length ≤ c2) (h : laws_FnExactTurnTail.f k a0_0 a0_1 l0_2 a1_0 a1_1 l2 a3 = some r) :
  Calls Try.prog 4 #[.agg #[.int .i64 a0_0, .int .i64 a0_1, .slice A0_2 l0_2.length c0_2], .agg #[.int .i64 a1_0, .int .i64 a1_1], .slice A2 l2.length c2, .int .i64 a3] w fun e w' => e = .returned (.bool r) ∧ Below w.heap.size w w' := by
 have hu24 := Try.underlying24
 have hu26 := Try.underlying26
 have hu30 := Try.underlying30
 have HR0_2 := Aside0.mk hr0_2
 have HC0_2 := Aside0.mk hc0_2
 clear hr0_2 hc0_2
 have HR2 := Aside0.mk hr2
 have HC2 := Aside0.mk hc2
 clear hr2 hc2
 have HB := Aside0.mk (Below.refl w.heap.size w)
 have H : (if (l2.length : Int) > 1048576 then (some true) else ((laws_szBoard.f a0_0 a0_1 l0_2 1048576).bind fun t445 => (if t445 < 0 then (some true) else ((laws_toBoard.f k a0_0 a0_1 l0_2).bind fun bt446 => ((laws_toLeaper.f a1_0 a1_1).bind fun bt451 => ((laws_toIntS.f k l2).bind fun t453 => ((spec_TurnTail.f k bt446.1 bt446.2.1 bt446.2.2 bt451.1 bt451.2 t453 a3).bind fun bt456 => ((laws_toBoard.f k a0_0 a0_1 l0_2).bind fun bt460 => ((laws_toIntS.f k l2).bind fun t466 => ((laws_toLeaper.f a1_0 a1_1).bind fun bt469 => ((impl_TurnTail.f k bt460.1 bt460.2.1 bt460.2.2 bt469.1 bt469.2 t466 a3).bind fun bt471 => ((laws_eqIntS.f k bt471.1 bt456.1).bind fun t475 => (if t475 = true then (laws_FnExactTurnTail.j0 k l2 a3 bt456.1 bt456.2 t466 bt471.1 bt471.2 (bt471.2 != bt456.2) a0_0 a0_1 l0_2 a1_0 a1_1 bt460.1 bt460.2.1 bt460.2.2) else (laws_FnExactTurnTail.j0 k l2 a3 bt456.1 bt456.2 t466 bt471.1 bt471.2 true a0_0 a0_1 l0_2 a1_0 a1_1 bt460.1 bt460.2.1 bt460.2.2)))))))))))))) = some r := h
 clear h
 by_cases c5 : (l2.length : Int) > 1048576
 ·rw [if_pos c5] at H
  have c5b0 : decide (1048576 < (l2.length : Int)) = true := decide_eq_true c5
  have c5b1 : decide (1048576 < l2.length) = true := decide_eq_true (by omega)
  clear c5
  obtain rfl := Option.some.inj H
  go_enter Try.func4, Try.ntmps4
  go_wp2_with (first | ((with_reducible refine gate_dst (N := 4) rfl ?_); refine box_event ?hg (N := 4) ?hd (cs := #[.int .i64 a0_0, .int .i64 a0_1, .slice A0_2 l0_2.length c0_2]) (t := 24) ?hr ?_; (case hd => rfl); (case hg => rfl); (case hr => first | (go_simp; done) | (go_simp; rfl)); intro gb443 hg w6 hbox hb; have n0_ := Aside0.mk (below_step zt14 hb); have n1_ := Aside0.mk (hbox); have n2_ := Aside0.mk ((zt53 : w.heap.size ≤ gb443)); have n3_ := Aside0.mk ((zt53 : w.heap.size ≤ gb443)); clear HB; have HB := n0_; have BK443 := n1_; have GW443 := n2_; have GE443 := n3_; clear n0_ n1_ n2_ n3_; clear hb hbox hg) | ((with_reducible refine gate_dst (N := 5) rfl ?_); refine box_event ?hg (N := 5) ?hd (cs := #[.int .i64 a1_0, .int .i64 a1_1]) (t := 26) ?hr ?_; (case hd => rfl); (case hg => rfl); (case hr => first | (go_simp; done) | (go_simp; rfl)); intro gb444 hg w7 hbox hb; have n0_ := Aside0.mk (blk_below (g := gb443) (o := .cells #[.int .i64 a0_0, .int .i64 a0_1, .slice A0_2 l0_2.length c0_2] 24 (0, 0)) zt2 hb); have n1_ := Aside0.mk (below_step zt10 hb); have n2_ := Aside0.mk (hbox); have n3_ := Aside0.mk ((zt54 : w.heap.size ≤ gb444)); have n4_ := Aside0.mk ((zt54 : w.heap.size ≤ gb444)); have n5_ := Aside0.mk ((zt51 : gb443 ≠ gb444)); have n6_ := Aside0.mk ((zt52 : gb444 ≠ gb443)); clear BK443; clear HB; have BK443 := n0_; have HB := n1_; have BK444 := n2_; have GW444 := n3_; have GE444 := n4_; have NB443_444 := n5_; have NB444_443 := n6_; clear n0_ n1_ n2_ n3_ n4_ n5_ n6_; clear hb hbox hg))
  go_ret
  exact ⟨zt16, zt5⟩
 rw [if_neg c5] at H
 have c5b0 : decide (1048576 < (l2.length : Int)) = false := decide_eq_false c5
 have c5b1 : decide (1048576 < l2.length) = false := decide_eq_false (by omega)
 clear c5
 replace H := Option.bind_eq_some_iff.mp H
 obtain ⟨t445, A80, H⟩ := H
 replace H : (if t445 < 0 then (some true) else ((laws_toBoard.f k a0_0 a0_1 l0_2).bind fun bt446 => ((laws_toLeaper.f a1_0 a1_1).bind fun bt451 => ((laws_toIntS.f k l2).bind fun t453 => ((spec_TurnTail.f k bt446.1 bt446.2.1 bt446.2.2 bt451.1 bt451.2 t453 a3).bind fun bt456 => ((laws_toBoard.f k a0_0 a0_1 l0_2).bind fun bt460 => ((laws_toIntS.f k l2).bind fun t466 => ((laws_toLeaper.f a1_0 a1_1).bind fun bt469 => ((impl_TurnTail.f k bt460.1 bt460.2.1 bt460.2.2 bt469.1 bt469.2 t466 a3).bind fun bt471 => ((laws_eqIntS.f k bt471.1 bt456.1).bind fun t475 => (if t475 = true then (laws_FnExactTurnTail.j0 k l2 a3 bt456.1 bt456.2 t466 bt471.1 bt471.2 (bt471.2 != bt456.2) a0_0 a0_1 l0_2 a1_0 a1_1 bt460.1 bt460.2.1 bt460.2.2) else (laws_FnExactTurnTail.j0 k l2 a3 bt456.1 bt456.2 t466 bt471.1 bt471.2 true a0_0 a0_1 l0_2 a1_0 a1_1 bt460.1 bt460.2.1 bt460.2.2)))))))))))) = some r := H
 have A8 := Aside0.mk A80
 clear A80
 by_cases c9 : t445 < 0
 ·rw [if_pos c9] at H
  have c9b0 : decide (t445 < 0) = true := decide_eq_true c9
  clear c9
  obtain rfl := Option.some.inj H
  go_enter Try.func4, Try.ntmps4
  go_wp2_with (first | ((with_reducible refine gate_dst (N := 4) rfl ?_); refine box_event ?hg (N := 4) ?hd (cs := #[.int .i64 a0_0, .int .i64 a0_1, .slice A0_2 l0_2.length c0_2]) (t := 24) ?hr ?_; (case hd => rfl); (case hg => rfl); (case hr => first | (go_simp; done) | (go_simp; rfl)); intro gb443 hg w10 hbox hb; have n0_ := Aside0.mk (below_step zt14 hb); have n1_ := Aside0.mk (hbox); have n2_ := Aside0.mk ((zt53 : w.heap.size ≤ gb443)); have n3_ := Aside0.mk ((zt53 : w.heap.size ≤ gb443)); clear HB; have HB := n0_; have BK443 := n1_; have GW443 := n2_; have GE443 := n3_; clear n0_ n1_ n2_ n3_; clear hb hbox hg) | ((with_reducible refine gate_dst (N := 5) rfl ?_); refine box_event ?hg (N := 5) ?hd (cs := #[.int .i64 a1_0, .int .i64 a1_1]) (t := 26) ?hr ?_; (case hd => rfl); (case hg => rfl); (case hr => first | (go_simp; done) | (go_simp; rfl)); intro gb444 hg w11 hbox hb; have n0_ := Aside0.mk (blk_below (g := gb443) (o := .cells #[.int .i64 a0_0, .int .i64 a0_1, .slice A0_2 l0_2.length c0_2] 24 (0, 0)) zt2 hb); have n1_ := Aside0.mk (below_step zt10 hb); have n2_ := Aside0.mk (hbox); have n3_ := Aside0.mk ((zt54 : w.heap.size ≤ gb444)); have n4_ := Aside0.mk ((zt54 : w.heap.size ≤ gb444)); have n5_ := Aside0.mk ((zt51 : gb443 ≠ gb444)); have n6_ := Aside0.mk ((zt52 : gb444 ≠ gb443)); clear BK443; clear HB; have BK443 := n0_; have HB := n1_; have BK444 := n2_; have GW444 := n3_; have GE444 := n4_; have NB443_444 := n5_; have NB444_443 := n6_; clear n0_ n1_ n2_ n3_ n4_ n5_ n6_; clear hb hbox hg; have hnb12 := NB443_444.out; have hnc12 := NB444_443.out; have hcz13_0 : w11.cell? ⟨gb443, 0, none⟩ = some (.int .i64 a0_0) := (blk_cell BK443.out 0).trans rfl; have hcz13_1 : w11.cell? ⟨gb443, 1, none⟩ = some (.int .i64 a0_1) := (blk_cell BK443.out 1).trans rfl; have hcz13_2 : w11.cell? ⟨gb443, 2, none⟩ = some (.slice A0_2 l0_2.length c0_2) := (blk_cell BK443.out 2).trans rfl; have hfz13_0 := blk_frozen BK443.out 0; have hfz13_1 := blk_frozen BK443.out 1; have hfz13_2 := blk_frozen BK443.out 2) | ((with_reducible refine gate_callee (f := 12) rfl ?_); refine goesL_ (some 26) rfl rfl Try.func12 (by kernel_rfl) rfl #[.agg #[.int .i64 a0_0, .int .i64 a0_1, .slice A0_2 l0_2.length c0_2], .int .i64 1048576] rfl zt3 ?_; (with_reducible refine (laws_szBoard.calls a0_0 a0_1 _ _ l0_2 1048576 t445 _ ?side1 ?side2 A8.out).mono ?_); (case side1 => exact zt12); (case side2 => exact HC0_2.out); rintro e w14 ⟨rfl, hb⟩; refine ⟨_, rfl, ?_⟩; have n0_ := Aside0.mk (blk_below (g := gb443) (o := .cells #[.int .i64 a0_0, .int .i64 a0_1, .slice A0_2 l0_2.length c0_2] 24 (0, 0)) zt2 hb); have n1_ := Aside0.mk (blk_below (g := gb444) (o := .cells #[.int .i64 a1_0, .int .i64 a1_1] 26 (0, 0)) zt4 hb); have n2_ := Aside0.mk (below_step zt5 hb); clear BK443; clear BK444; clear HB; have BK443 := n0_; have BK444 := n1_; have HB := n2_; clear n0_ n1_ n2_; (try clear hb); (try clear hb2); (try clear hk); (try clear hi); (try clear hna_); (try clear hnb_)))
  go_ret
  exact ⟨zt16, zt5⟩
 rw [if_neg c9] at H
 have c9b0 : decide (t445 < 0) = false := decide_eq_false c9
 clear c9
 replace H := Option.bind_eq_some_iff.mp H
 obtain ⟨⟨t446, t447, t448⟩, A150, H⟩ := H
 replace H : ((laws_toLeaper.f a1_0 a1_1).bind fun bt451 => ((laws_toIntS.f k l2).bind fun t453 => ((spec_TurnTail.f k t446 t447 t448 bt451.1 bt451.2 t453 a3).bind fun bt456 => ((laws_toBoard.f k a0_0 a0_1 l0_2).bind fun bt460 => ((laws_toIntS.f k l2).bind fun t466 => ((laws_toLeaper.f a1_0 a1_1).bind fun bt469 => ((impl_TurnTail.f k bt460.1 bt460.2.1 bt460.2.2 bt469.1 bt469.2 t466 a3).bind fun bt471 => ((laws_eqIntS.f k bt471.1 bt456.1).bind fun t475 => (if t475 = true then (laws_FnExactTurnTail.j0 k l2 a3 bt456.1 bt456.2 t466 bt471.1 bt471.2 (bt471.2 != bt456.2) a0_0 a0_1 l0_2 a1_0 a1_1 bt460.1 bt460.2.1 bt460.2.2) else (laws_FnExactTurnTail.j0 k l2 a3 bt456.1 bt456.2 t466 bt471.1 bt471.2 true a0_0 a0_1 l0_2 a1_0 a1_1 bt460.1 bt460.2.1 bt460.2.2)))))))))) = some r := H
 have A15 := Aside0.mk A150
 clear A150
 replace H := Option.bind_eq_some_iff.mp H
 obtain ⟨⟨t451, t452⟩, A160, H⟩ := H
 replace H : ((laws_toIntS.f k l2).bind fun t453 => ((spec_TurnTail.f k t446 t447 t448 t451 t452 t453 a3).bind fun bt456 => ((laws_toBoard.f k a0_0 a0_1 l0_2).bind fun bt460 => ((laws_toIntS.f k l2).bind fun t466 => ((laws_toLeaper.f a1_0 a1_1).bind fun bt469 => ((impl_TurnTail.f k bt460.1 bt460.2.1 bt460.2.2 bt469.1 bt469.2 t466 a3).bind fun bt471 => ((laws_eqIntS.f k bt471.1 bt456.1).bind fun t475 => (if t475 = true then (laws_FnExactTurnTail.j0 k l2 a3 bt456.1 bt456.2 t466 bt471.1 bt471.2 (bt471.2 != bt456.2) a0_0 a0_1 l0_2 a1_0 a1_1 bt460.1 bt460.2.1 bt460.2.2) else (laws_FnExactTurnTail.j0 k l2 a3 bt456.1 bt456.2 t466 bt471.1 bt471.2 true a0_0 a0_1 l0_2 a1_0 a1_1 bt460.1 bt460.2.1 bt460.2.2))))))))) = some r := H
 have A16 := Aside0.mk A160
 clear A160
 replace H := Option.bind_eq_some_iff.mp H
 obtain ⟨t453, A170, H⟩ := H
 replace H : ((spec_TurnTail.f k t446 t447 t448 t451 t452 t453 a3).bind fun bt456 => ((laws_toBoard.f k a0_0 a0_1 l0_2).bind fun bt460 => ((laws_toIntS.f k l2).bind fun t466 => ((laws_toLeaper.f a1_0 a1_1).bind fun bt469 => ((impl_TurnTail.f k bt460.1 bt460.2.1 bt460.2.2 bt469.1 bt469.2 t466 a3).bind fun bt471 => ((laws_eqIntS.f k bt471.1 bt456.1).bind fun t475 => (if t475 = true then (laws_FnExactTurnTail.j0 k l2 a3 bt456.1 bt456.2 t466 bt471.1 bt471.2 (bt471.2 != bt456.2) a0_0 a0_1 l0_2 a1_0 a1_1 bt460.1 bt460.2.1 bt460.2.2) else (laws_FnExactTurnTail.j0 k l2 a3 bt456.1 bt456.2 t466 bt471.1 bt471.2 true a0_0 a0_1 l0_2 a1_0 a1_1 bt460.1 bt460.2.1 bt460.2.2)))))))) = some r := H
 have A17 := Aside0.mk A170
 clear A170
 replace H := Option.bind_eq_some_iff.mp H
 obtain ⟨⟨t456, t459⟩, A180, H⟩ := H
 replace H : ((laws_toBoard.f k a0_0 a0_1 l0_2).bind fun bt460 => ((laws_toIntS.f k l2).bind fun t466 => ((laws_toLeaper.f a1_0 a1_1).bind fun bt469 => ((impl_TurnTail.f k bt460.1 bt460.2.1 bt460.2.2 bt469.1 bt469.2 t466 a3).bind fun bt471 => ((laws_eqIntS.f k bt471.1 t456).bind fun t475 => (if t475 = true then (laws_FnExactTurnTail.j0 k l2 a3 t456 t459 t466 bt471.1 bt471.2 (bt471.2 != t459) a0_0 a0_1 l0_2 a1_0 a1_1 bt460.1 bt460.2.1 bt460.2.2) else (laws_FnExactTurnTail.j0 k l2 a3 t456 t459 t466 bt471.1 bt471.2 true a0_0 a0_1 l0_2 a1_0 a1_1 bt460.1 bt460.2.1 bt460.2.2))))))) = some r := H
 have A18 := Aside0.mk A180
 clear A180
 replace H := Option.bind_eq_some_iff.mp H
 obtain ⟨⟨t460, t461, t462⟩, A190, H⟩ := H
 replace H : ((laws_toIntS.f k l2).bind fun t466 => ((laws_toLeaper.f a1_0 a1_1).bind fun bt469 => ((impl_TurnTail.f k t460 t461 t462 bt469.1 bt469.2 t466 a3).bind fun bt471 => ((laws_eqIntS.f k bt471.1 t456).bind fun t475 => (if t475 = true then (laws_FnExactTurnTail.j0 k l2 a3 t456 t459 t466 bt471.1 bt471.2 (bt471.2 != t459) a0_0 a0_1 l0_2 a1_0 a1_1 t460 t461 t462) else (laws_FnExactTurnTail.j0 k l2 a3 t456 t459 t466 bt471.1 bt471.2 true a0_0 a0_1 l0_2 a1_0 a1_1 t460 t461 t462)))))) = some r := H
 have A19 := Aside0.mk A190
 clear A190
 replace H := Option.bind_eq_some_iff.mp H
 obtain ⟨t466, A200, H⟩ := H
 replace H : ((laws_toLeaper.f a1_0 a1_1).bind fun bt469 => ((impl_TurnTail.f k t460 t461 t462 bt469.1 bt469.2 t466 a3).bind fun bt471 => ((laws_eqIntS.f k bt471.1 t456).bind fun t475 => (if t475 = true then (laws_FnExactTurnTail.j0 k l2 a3 t456 t459 t466 bt471.1 bt471.2 (bt471.2 != t459) a0_0 a0_1 l0_2 a1_0 a1_1 t460 t461 t462) else (laws_FnExactTurnTail.j0 k l2 a3 t456 t459 t466 bt471.1 bt471.2 true a0_0 a0_1 l0_2 a1_0 a1_1 t460 t461 t462))))) = some r := H
 have A20 := Aside0.mk A200
 clear A200
 replace H := Option.bind_eq_some_iff.mp H
 obtain ⟨⟨t469, t470⟩, A210, H⟩ := H
 replace H : ((impl_TurnTail.f k t460 t461 t462 t469 t470 t466 a3).bind fun bt471 => ((laws_eqIntS.f k bt471.1 t456).bind fun t475 => (if t475 = true then (laws_FnExactTurnTail.j0 k l2 a3 t456 t459 t466 bt471.1 bt471.2 (bt471.2 != t459) a0_0 a0_1 l0_2 a1_0 a1_1 t460 t461 t462) else (laws_FnExactTurnTail.j0 k l2 a3 t456 t459 t466 bt471.1 bt471.2 true a0_0 a0_1 l0_2 a1_0 a1_1 t460 t461 t462)))) = some r := H
 have A21 := Aside0.mk A210
 clear A210
 replace H := Option.bind_eq_some_iff.mp H
 obtain ⟨⟨t471, t474⟩, A220, H⟩ := H
 replace H : ((laws_eqIntS.f k t471 t456).bind fun t475 => (if t475 = true then (laws_FnExactTurnTail.j0 k l2 a3 t456 t459 t466 t471 t474 (t474 != t459) a0_0 a0_1 l0_2 a1_0 a1_1 t460 t461 t462) else (laws_FnExactTurnTail.j0 k l2 a3 t456 t459 t466 t471 t474 true a0_0 a0_1 l0_2 a1_0 a1_1 t460 t461 t462))) = some r := H
 have A22 := Aside0.mk A220
 clear A220
 have HC23 := Aside0.mk H
 clear H
 go_enter Try.func4, Try.ntmps4
 try go_wp2_with (first | ((with_reducible refine gate_dst (N := 4) rfl ?_); refine box_event ?hg (N := 4) ?hd (cs := #[.int .i64 a0_0, .int .i64 a0_1, .slice A0_2 l0_2.length c0_2]) (t := 24) ?hr ?_; (case hd => rfl); (case hg => rfl); (case hr => first | (go_simp; done) | (go_simp; rfl)); intro gb443 hg w24 hbox hb; have n0_ := Aside0.mk (below_step zt14 hb); have n1_ := Aside0.mk (hbox); have n2_ := Aside0.mk ((zt53 : w.heap.size ≤ gb443)); have n3_ := Aside0.mk ((zt53 : w.heap.size ≤ gb443)); clear HB; have HB := n0_; have BK443 := n1_; have GW443 := n2_; have GE443 := n3_; clear n0_ n1_ n2_ n3_; clear hb hbox hg) | ((with_reducible refine gate_dst (N := 5) rfl ?_); refine box_event ?hg (N := 5) ?hd (cs := #[.int .i64 a1_0, .int .i64 a1_1]) (t := 26) ?hr ?_; (case hd => rfl); (case hg => rfl); (case hr => first | (go_simp; done) | (go_simp; rfl)); intro gb444 hg w25 hbox hb; have n0_ := Aside0.mk (blk_below (g := gb443) (o := .cells #[.int .i64 a0_0, .int .i64 a0_1, .slice A0_2 l0_2.length c0_2] 24 (0, 0)) zt2 hb); have n1_ := Aside0.mk (below_step zt10 hb); have n2_ := Aside0.mk (hbox); have n3_ := Aside0.mk ((zt54 : w.heap.size ≤ gb444)); have n4_ := Aside0.mk ((zt54 : w.heap.size ≤ gb444)); have n5_ := Aside0.mk ((zt51 : gb443 ≠ gb444)); have n6_ := Aside0.mk ((zt52 : gb444 ≠ gb443)); clear BK443; clear HB; have BK443 := n0_; have HB := n1_; have BK444 := n2_; have GW444 := n3_; have GE444 := n4_; have NB443_444 := n5_; have NB444_443 := n6_; clear n0_ n1_ n2_ n3_ n4_ n5_ n6_; clear hb hbox hg; have hnb26 := NB443_444.out; have hnc26 := NB444_443.out; have hcz27_0 : w25.cell? ⟨gb443, 0, none⟩ = some (.int .i64 a0_0) := (blk_cell BK443.out 0).trans rfl; have hcz27_1 : w25.cell? ⟨gb443, 1, none⟩ = some (.int .i64 a0_1) := (blk_cell BK443.out 1).trans rfl; have hcz27_2 : w25.cell? ⟨gb443, 2, none⟩ = some (.slice A0_2 l0_2.length c0_2) := (blk_cell BK443.out 2).trans rfl; have hfz27_0 := blk_frozen BK443.out 0; have hfz27_1 := blk_frozen BK443.out 1; have hfz27_2 := blk_frozen BK443.out 2) | ((with_reducible refine gate_callee (f := 12) rfl ?_); refine goesL_ (some 26) rfl rfl Try.func12 (by kernel_rfl) rfl #[.agg #[.int .i64 a0_0, .int .i64 a0_1, .slice A0_2 l0_2.length c0_2], .int .i64 1048576] rfl zt3 ?_; (with_reducible refine (laws_szBoard.calls a0_0 a0_1 _ _ l0_2 1048576 t445 _ ?side1 ?side2 A8.out).mono ?_); (case side1 => exact zt12); (case side2 => exact HC0_2.out); rintro e w28 ⟨rfl, hb⟩; refine ⟨_, rfl, ?_⟩; have n0_ := Aside0.mk (blk_below (g := gb443) (o := .cells #[.int .i64 a0_0, .int .i64 a0_1, .slice A0_2 l0_2.length c0_2] 24 (0, 0)) zt2 hb); have n1_ := Aside0.mk (blk_below (g := gb444) (o := .cells #[.int .i64 a1_0, .int .i64 a1_1] 26 (0, 0)) zt4 hb); have n2_ := Aside0.mk (below_step zt5 hb); clear BK443; clear BK444; clear HB; have BK443 := n0_; have BK444 := n1_; have HB := n2_; clear n0_ n1_ n2_; (try clear hb); (try clear hb2); (try clear hk); (try clear hi); (try clear hna_); (try clear hnb_)))
 have n0_ := Aside0.mk (blk_drew BK443.out)
 have n1_ := Aside0.mk (blk_drew BK444.out)
 have n2_ := Aside0.mk (below_drew1 HB.out)
 clear BK443
 clear BK444
 clear HB
 have BK443 := n0_
 have BK444 := n1_
 have HB := n2_
 clear n0_ n1_ n2_
 refine start_ (n := 13) (S := fun w' => w'.cell? ⟨gb443, 0, none⟩ = some (.int .i64 a0_0) ∧ w'.cell? ⟨gb443, 1, none⟩ = some (.int .i64 a0_1) ∧ w'.cell? ⟨gb443, 2, none⟩ = some (.slice A0_2 l0_2.length c0_2) ∧ w'.cell? ⟨gb444, 0, none⟩ = some (.int .i64 a1_0) ∧ w'.cell? ⟨gb444, 1, none⟩ = some (.int .i64 a1_1)) (ds := []) #[false, false, false, false, false, false, false, false, false, false, false, false, false] (by kernel_rfl) rfl rfl ⟨(blk_cell BK443.out 0).trans rfl, (blk_cell BK443.out 1).trans rfl, (blk_cell BK443.out 2).trans rfl, (blk_cell BK444.out 0).trans rfl, (blk_cell BK444.out 1).trans rfl⟩ (fun hHeld => ?_); refine with_tabW laws_FnExactTurnTail.tab7 laws_FnExactTurnTail.bits7 (fun HT_ HW_ => ?_)
 generalize w28.drew = w29 at BK443 BK444 HB hHeld ⊢
 refine pure_ (i := 4) (N := some 34) (v := ?_) (a' := ?_) #[false, false, false, false, true, false, false, false, false, false, false, false, false] rfl rfl (any_of HT_.out (by kernel_rfl)) (fun _ _ _ h => h) (Or.inl ⟨by rfl, ?_⟩) ?_ ?_
 rotate_left
 ·intro w'
  go_simp
  with_reducible rfl
 rotate_left
 ·simp only [Act.put, List.setIfInBounds_toArray, List.set_cons_zero, List.set_cons_succ, i64_w, i32_w]
  rfl
 refine pure_ (i := 6) (N := some 36) (v := ?_) (a' := ?_) #[false, false, false, false, true, false, true, false, false, false, false, false, false] rfl rfl (any_of HT_.out (by kernel_rfl)) (fun _ _ _ h => h) (Or.inl ⟨by rfl, ?_⟩) ?_ ?_
 rotate_left
 ·intro w'
  go_simp
  with_reducible rfl
 rotate_left
 ·simp only [Act.put, List.setIfInBounds_toArray, List.set_cons_zero, List.set_cons_succ, i64_w, i32_w]
  rfl
 refine take_ (i := 0) (N := some 30) (v := ?_) (a' := ?_) #[true, false, false, false, true, false, true, false, false, false, false, false, false] rfl rfl (take_ofW HT_.out HW_.out (by kernel_rfl)) (fun _ _ _ h => h) (Or.inl ⟨by rfl, ?_⟩) hHeld ?_ ?_
 rotate_left
 ·rintro w' ⟨s0, s1, s2, s3, s4⟩
  go_simp
  with_reducible rfl
 rotate_left
 ·simp only [Act.put, List.setIfInBounds_toArray, List.set_cons_zero, List.set_cons_succ, i64_w, i32_w]
  rfl
 refine take_ (i := 2) (N := some 32) (v := ?_) (a' := ?_) #[true, false, true, false, true, false, true, false, false, false, false, false, false] rfl rfl (take_ofW HT_.out HW_.out (by kernel_rfl)) (fun _ _ _ h => h) (Or.inl ⟨by rfl, ?_⟩) hHeld ?_ ?_
 rotate_left
 ·rintro w' ⟨s0, s1, s2, s3, s4⟩
  go_simp
  with_reducible rfl
 rotate_left
 ·simp only [Act.put, List.setIfInBounds_toArray, List.set_cons_zero, List.set_cons_succ, i64_w, i32_w]
  rfl
 refine one_ (i := 1) (N := some 31) #[true, true, true, false, true, false, true, false, false, false, false, false, false] rfl rfl (one_of HT_.out (by kernel_rfl)) (by decide) (fun K hK => ?_)
 refine goes_ Try.func14 (by kernel_rfl) rfl #[.agg #[.int .i64 a0_0, .int .i64 a0_1, .slice A0_2 l0_2.length c0_2]] (by rfl) rfl rfl zt3 ?_
 with_reducible refine (laws_toBoard.calls k a0_0 a0_1 _ _ l0_2 t446 t447 t448 _ ?side1 ?side2 A15.out).mono ?_
 (case side1 => exact zt12)
 (case side2 => exact HC0_2.out)
 rintro e w30 ⟨v449, rfl, ho0, hb⟩
 refine ⟨_, rfl, ?_⟩
 have n0_ := Aside0.mk (Kd.R_lower ho0 (below_size zt5))
 have n1_ := Aside0.mk (blk_below (g := gb443) (o := .cells #[.int .i64 a0_0, .int .i64 a0_1, .slice A0_2 l0_2.length c0_2] 24 (0, 0)) zt2 hb)
 have n2_ := Aside0.mk (blk_below (g := gb444) (o := .cells #[.int .i64 a1_0, .int .i64 a1_1] 26 (0, 0)) zt4 hb)
 have n3_ := Aside0.mk (below_step zt5 hb)
 clear BK443
 clear BK444
 clear HB
 have HO450 := n0_
 have BK443 := n1_
 have BK444 := n2_
 have HB := n3_
 clear n0_ n1_ n2_ n3_
 (try clear hb)
 (try clear hb2)
 (try clear hk)
 (try clear hi)
 (try clear ho0)
 (try clear hna_)
 (try clear hnb_)
 refine hK.out _ _ ⟨(blk_cell BK443.out 0).trans rfl, (blk_cell BK443.out 1).trans rfl, (blk_cell BK443.out 2).trans rfl, (blk_cell BK444.out 0).trans rfl, (blk_cell BK444.out 1).trans rfl⟩ (fun hHeld => ?_)
 clear hK K
 refine norm_ (a' := ?_) ?_ ?_
 rotate_left
 ·show Act.put _ (some 31) _ = _
  simp only [Act.put, List.setIfInBounds_toArray, List.set_cons_zero, List.set_cons_succ, i64_w, i32_w]
  rfl
 refine one_ (i := 3) (N := some 33) #[true, true, true, true, true, false, true, false, false, false, false, false, false] rfl rfl (one_of HT_.out (by kernel_rfl)) (by decide) (fun K hK => ?_)
 refine goes_ Try.func15 (by kernel_rfl) rfl #[.agg #[.int .i64 a1_0, .int .i64 a1_1]] (by rfl) rfl rfl zt3 ?_
 with_reducible refine (laws_toLeaper.calls a1_0 a1_1 t451 t452 _ A16.out).mono ?_
 rintro e w31 ⟨rfl, hb⟩
 refine ⟨_, rfl, ?_⟩
 have n0_ := Aside0.mk (Kd.R_below zt15 hb)
 have n1_ := Aside0.mk (blk_below (g := gb443) (o := .cells #[.int .i64 a0_0, .int .i64 a0_1, .slice A0_2 l0_2.length c0_2] 24 (0, 0)) zt2 hb)
 have n2_ := Aside0.mk (blk_below (g := gb444) (o := .cells #[.int .i64 a1_0, .int .i64 a1_1] 26 (0, 0)) zt4 hb)
 have n3_ := Aside0.mk (below_step zt5 hb)
 clear HO450
 clear BK443
 clear BK444
 clear HB
 have HO450 := n0_
 have BK443 := n1_
 have BK444 := n2_
 have HB := n3_
 clear n0_ n1_ n2_ n3_
 (try clear hb)
 (try clear hb2)
 (try clear hk)
 (try clear hi)
 (try clear hna_)
 (try clear hnb_)
 refine hK.out _ _ ⟨(blk_cell BK443.out 0).trans rfl, (blk_cell BK443.out 1).trans rfl, (blk_cell BK443.out 2).trans rfl, (blk_cell BK444.out 0).trans rfl, (blk_cell BK444.out 1).trans rfl⟩ (fun hHeld => ?_)
 clear hK K
 refine norm_ (a' := ?_) ?_ ?_
 rotate_left
 ·show Act.put _ (some 33) _ = _
  simp only [Act.put, List.setIfInBounds_toArray, List.set_cons_zero, List.set_cons_succ, i64_w, i32_w]
  rfl
 refine one_ (i := 5) (N := some 35) #[true, true, true, true, true, true, true, false, false, false, false, false, false] rfl rfl (one_of HT_.out (by kernel_rfl)) (by decide) (fun K hK => ?_)
 refine goes_ Try.func16 (by kernel_rfl) rfl #[.slice A2 l2.length c2] (by rfl) rfl rfl zt3 ?_
 with_reducible refine (laws_toIntS.calls k _ _ l2 t453 _ ?side1 ?side2 A17.out).mono ?_
 (case side1 => exact zt21)
 (case side2 => exact HC2.out)
 rintro e w32 ⟨v454, rfl, ho0, hb⟩
 refine ⟨_, rfl, ?_⟩
 have n0_ := Aside0.mk (Kd.R_elder' zt15 (Kd.R_base ho0) hb)
 have n1_ := Aside0.mk (Kd.R_lower (Kd.R_new' ho0 (Kd.R_lt zt15)) (below_size zt5))
 have n2_ := Aside0.mk (blk_below (g := gb443) (o := .cells #[.int .i64 a0_0, .int .i64 a0_1, .slice A0_2 l0_2.length c0_2] 24 (0, 0)) zt2 hb)
 have n3_ := Aside0.mk (blk_below (g := gb444) (o := .cells #[.int .i64 a1_0, .int .i64 a1_1] 26 (0, 0)) zt4 hb)
 have n4_ := Aside0.mk (below_step zt5 hb)
 clear HO450
 clear BK443
 clear BK444
 clear HB
 have HO450 := n0_
 have HO455 := n1_
 have BK443 := n2_
 have BK444 := n3_
 have HB := n4_
 clear n0_ n1_ n2_ n3_ n4_
 (try clear hb)
 (try clear hb2)
 (try clear hk)
 (try clear hi)
 (try clear ho0)
 (try clear hna_)
 (try clear hnb_)
 obtain ⟨Ao33, co33, eo33⟩ := Kd.R_slice HO450.out
 (first | subst eo33 | (injection eo33 with f1_ f2_ f3_; have f4_ := f1_.symm; have f5_ := f3_.symm; clear f1_ f2_ f3_; subst f4_; subst f5_))
 obtain ⟨Ao34, co34, eo34⟩ := Kd.R_slice HO455.out
 (first | subst eo34 | (injection eo34 with f1_ f2_ f3_; have f4_ := f1_.symm; have f5_ := f3_.symm; clear f1_ f2_ f3_; subst f4_; subst f5_))
 refine hK.out _ _ ⟨(blk_cell BK443.out 0).trans rfl, (blk_cell BK443.out 1).trans rfl, (blk_cell BK443.out 2).trans rfl, (blk_cell BK444.out 0).trans rfl, (blk_cell BK444.out 1).trans rfl⟩ (fun hHeld => ?_)
 clear hK K
 refine norm_ (a' := ?_) ?_ ?_
 rotate_left
 ·show Act.put _ (some 35) _ = _
  simp only [Act.put, List.setIfInBounds_toArray, List.set_cons_zero, List.set_cons_succ, i64_w, i32_w]
  rfl
 refine one_ (i := 7) (N := some 37) #[true, true, true, true, true, true, true, true, false, false, false, false, false] rfl rfl (one_of HT_.out (by kernel_rfl)) (by decide) (fun K hK => ?_)
 refine goes_ Try.func23 (by kernel_rfl) rfl #[.agg #[.int .i64 t446, .int .i64 t447, .slice Ao33 t448.length co33], .agg #[.int .i64 t451, .int .i64 t452], .slice Ao34 t453.length co34, .int .i64 a3] (by rfl) rfl rfl zt3 ?_
 with_reducible refine (spec_TurnTail.calls k t446 t447 _ _ t448 t451 t452 _ _ t453 a3 t456 t459 _ ?side1 ?side2 ?side3 ?side4 A18.out).mono ?_
 (case side1 => repeat (first | exact (Kd.R_reads' HO450.out).2.2 | (with_reducible refine Kd.C_alloc ?_ _) | (with_reducible refine Kd.C_drewN ?_ _) | (with_reducible refine Kd.C_drew ?_)))
 (case side2 => exact (Kd.R_reads' HO450.out).2.1)
 (case side3 => repeat (first | exact (Kd.R_reads' HO455.out).2.2 | (with_reducible refine Kd.C_alloc ?_ _) | (with_reducible refine Kd.C_drewN ?_ _) | (with_reducible refine Kd.C_drew ?_)))
 (case side4 => exact (Kd.R_reads' HO455.out).2.1)
 rintro e w35 ⟨v457, rfl, ho0, hb⟩
 refine ⟨_, rfl, ?_⟩
 have n0_ := Aside0.mk (Kd.R_elder' zt15 (Kd.R_base ho0) hb)
 have n1_ := Aside0.mk (Kd.R_elder' zt17 (Kd.R_base ho0) hb)
 have n2_ := Aside0.mk (Kd.R_lower (Kd.R_new' (Kd.R_new' ho0 (Kd.R_lt zt15)) (Kd.R_lt zt17)) (below_size zt5))
 have n3_ := Aside0.mk (blk_below (g := gb443) (o := .cells #[.int .i64 a0_0, .int .i64 a0_1, .slice A0_2 l0_2.length c0_2] 24 (0, 0)) zt2 hb)
 have n4_ := Aside0.mk (blk_below (g := gb444) (o := .cells #[.int .i64 a1_0, .int .i64 a1_1] 26 (0, 0)) zt4 hb)
 have n5_ := Aside0.mk (below_step zt5 hb)
 clear HO450
 clear HO455
 clear BK443
 clear BK444
 clear HB
 have HO450 := n0_
 have HO455 := n1_
 have HO458 := n2_
 have BK443 := n3_
 have BK444 := n4_
 have HB := n5_
 clear n0_ n1_ n2_ n3_ n4_ n5_
 (try clear hb)
 (try clear hb2)
 (try clear hk)
 (try clear hi)
 (try clear ho0)
 (try clear hna_)
 (try clear hnb_)
 refine hK.out _ _ ⟨(blk_cell BK443.out 0).trans rfl, (blk_cell BK443.out 1).trans rfl, (blk_cell BK443.out 2).trans rfl, (blk_cell BK444.out 0).trans rfl, (blk_cell BK444.out 1).trans rfl⟩ (fun hHeld => ?_)
 clear hK K
 refine norm_ (a' := ?_) ?_ ?_
 rotate_left
 ·show Act.put _ (some 37) _ = _
  simp only [Act.put, List.setIfInBounds_toArray, List.set_cons_zero, List.set_cons_succ, i64_w, i32_w]
  rfl
 refine pure_ (i := 8) (N := some 29) (v := ?_) (a' := ?_) #[true, true, true, true, true, true, true, true, true, false, false, false, false] rfl rfl (any_of HT_.out (by kernel_rfl)) (fun _ _ _ h => h) (Or.inl ⟨by rfl, ?_⟩) ?_ ?_
 rotate_left
 ·intro w'
  go_simp
  with_reducible rfl
 rotate_left
 ·simp only [Act.put, List.setIfInBounds_toArray, List.set_cons_zero, List.set_cons_succ, i64_w, i32_w]
  rfl
 refine pure_ (i := 9) (N := some 38) (v := ?_) (a' := ?_) #[true, true, true, true, true, true, true, true, true, true, false, false, false] rfl rfl (any_of HT_.out (by kernel_rfl)) (fun _ _ _ h => h) (Or.inl ⟨by rfl, ?_⟩) ?_ ?_
 rotate_left
 ·intro w'
  go_simp
  with_reducible rfl
 rotate_left
 ·simp only [Act.put, List.setIfInBounds_toArray, List.set_cons_zero, List.set_cons_succ, i64_w, i32_w]
  rfl
 refine pure_ (i := 10) (N := some 39) (v := ?_) (a' := ?_) #[true, true, true, true, true, true, true, true, true, true, true, false, false] rfl rfl (any_of HT_.out (by kernel_rfl)) (fun _ _ _ h => h) (Or.inl ⟨by rfl, ?_⟩) ?_ ?_
 rotate_left
 ·intro w'
  go_simp
  with_reducible rfl
 rotate_left
 ·simp only [Act.put, List.setIfInBounds_toArray, List.set_cons_zero, List.set_cons_succ, i64_w, i32_w]
  rfl
 refine pure_ (i := 11) (N := some 10) (v := ?_) (a' := ?_) #[true, true, true, true, true, true, true, true, true, true, true, true, false] rfl rfl (any_of HT_.out (by kernel_rfl)) (fun _ _ _ h => h) (Or.inl ⟨by rfl, ?_⟩) ?_ ?_
 rotate_left
 ·intro w'
  go_simp
  with_reducible rfl
 rotate_left
 ·simp only [Act.put, List.setIfInBounds_toArray, List.set_cons_zero, List.set_cons_succ, i64_w, i32_w]
  rfl
 refine pure_ (i := 12) (N := some 11) (v := ?_) (a' := ?_) #[true, true, true, true, true, true, true, true, true, true, true, true, true] rfl rfl (any_of HT_.out (by kernel_rfl)) (fun _ _ _ h => h) (Or.inl ⟨by rfl, ?_⟩) ?_ ?_
 rotate_left
 ·intro w'
  go_simp
  with_reducible rfl
 rotate_left
 ·simp only [Act.put, List.setIfInBounds_toArray, List.set_cons_zero, List.set_cons_succ, i64_w, i32_w]
  rfl
 refine done_ (done_of HT_.out (by kernel_rfl)) ?_
 have hcz36_0 : w35.cell? ⟨gb443, 0, none⟩ = some (.int .i64 a0_0) := (blk_cell BK443.out 0).trans rfl
 have hcz36_1 : w35.cell? ⟨gb443, 1, none⟩ = some (.int .i64 a0_1) := (blk_cell BK443.out 1).trans rfl
 have hcz36_2 : w35.cell? ⟨gb443, 2, none⟩ = some (.slice A0_2 l0_2.length c0_2) := (blk_cell BK443.out 2).trans rfl
 have hfz36_0 := blk_frozen BK443.out 0
 have hfz36_1 := blk_frozen BK443.out 1
 have hfz36_2 := blk_frozen BK443.out 2
 try go_wp2_with (first | ((with_reducible refine gate_callee (f := 14) rfl ?_); refine goesL_ (some 41) rfl rfl Try.func14 (by kernel_rfl) rfl #[.agg #[.int .i64 a0_0, .int .i64 a0_1, .slice A0_2 l0_2.length c0_2]] rfl zt3 ?_; (with_reducible refine (laws_toBoard.calls k a0_0 a0_1 _ _ l0_2 t460 t461 t462 _ ?side1 ?side2 A19.out).mono ?_); (case side1 => exact zt12); (case side2 => exact HC0_2.out); rintro e w37 ⟨v463, rfl, ho0, hb⟩; refine ⟨_, rfl, ?_⟩; have n0_ := Aside0.mk (Kd.R_elder' zt15 (Kd.R_base ho0) hb); have n1_ := Aside0.mk (Kd.R_elder' zt17 (Kd.R_base ho0) hb); have n2_ := Aside0.mk (Kd.R_elder' zt19 (Kd.R_base ho0) hb); have n3_ := Aside0.mk (Kd.R_lower (Kd.R_new' (Kd.R_new' (Kd.R_new' ho0 (Kd.R_lt zt15)) (Kd.R_lt zt17)) (Kd.R_lt zt19)) (below_size zt5)); have n4_ := Aside0.mk (blk_below (g := gb443) (o := .cells #[.int .i64 a0_0, .int .i64 a0_1, .slice A0_2 l0_2.length c0_2] 24 (0, 0)) zt2 hb); have n5_ := Aside0.mk (blk_below (g := gb444) (o := .cells #[.int .i64 a1_0, .int .i64 a1_1] 26 (0, 0)) zt4 hb); have n6_ := Aside0.mk (below_step zt5 hb); clear HO450; clear HO455; clear HO458; clear BK443; clear BK444; clear HB; have HO450 := n0_; have HO455 := n1_; have HO458 := n2_; have HO464 := n3_; have BK443 := n4_; have BK444 := n5_; have HB := n6_; clear n0_ n1_ n2_ n3_ n4_ n5_ n6_; (try clear hb); (try clear hb2); (try clear hk); (try clear hi); (try clear ho0); (try clear hna_); (try clear hnb_)) | ((with_reducible refine gate_dst (N := 12) rfl ?_); refine box_event ?hg (N := 12) ?hd (cs := #[.int .i64 0, .int .i64 0, .slice none 0 0]) (t := 30) ?hr ?_; (case hd => rfl); (case hg => rfl); (case hr => first | (go_simp; done) | (go_simp; rfl)); intro gb465 hg w38 hbox hb; have n0_ := Aside0.mk (Kd.R_below zt15 hb); have n1_ := Aside0.mk (Kd.R_below zt17 hb); have n2_ := Aside0.mk (Kd.R_below zt19 hb); have n3_ := Aside0.mk (Kd.R_below zt30 hb); have n4_ := Aside0.mk (blk_below (g := gb443) (o := .cells #[.int .i64 a0_0, .int .i64 a0_1, .slice A0_2 l0_2.length c0_2] 24 (0, 0)) zt2 hb); have n5_ := Aside0.mk (blk_below (g := gb444) (o := .cells #[.int .i64 a1_0, .int .i64 a1_1] 26 (0, 0)) zt4 hb); have n6_ := Aside0.mk (below_step zt5 hb); have n7_ := Aside0.mk (hbox); have n8_ := Aside0.mk ((by rw [hg]; exact (below_size zt5) : w.heap.size ≤ gb465)); have n9_ := Aside0.mk ((by rw [hg]; exact (below_size zt5) : w.heap.size ≤ gb465)); have n10_ := Aside0.mk ((zt51 : gb443 ≠ gb465)); have n11_ := Aside0.mk ((zt52 : gb465 ≠ gb443)); have n12_ := Aside0.mk ((by rw [hg]; exact Nat.ne_of_lt (blk_lt (g := gb444) (o := .cells #[.int .i64 a1_0, .int .i64 a1_1] 26 (0, 0)) zt4) : gb444 ≠ gb465)); have n13_ := Aside0.mk ((by rw [hg]; exact Nat.ne_of_gt (blk_lt (g := gb444) (o := .cells #[.int .i64 a1_0, .int .i64 a1_1] 26 (0, 0)) zt4) : gb465 ≠ gb444)); clear HO450; clear HO455; clear HO458; clear HO464; clear BK443; clear BK444; clear HB; have HO450 := n0_; have HO455 := n1_; have HO458 := n2_; have HO464 := n3_; have BK443 := n4_; have BK444 := n5_; have HB := n6_; have BK465 := n7_; have GW465 := n8_; have GE465 := n9_; have NB443_465 := n10_; have NB465_443 := n11_; have NB444_465 := n12_; have NB465_444 := n13_; clear n0_ n1_ n2_ n3_ n4_ n5_ n6_ n7_ n8_ n9_ n10_ n11_ n12_ n13_; clear hb hbox hg; have hnb39 := NB465_443.out; have hnc39 := NB443_465.out; have hnb40 := NB465_444.out; have hnc40 := NB444_465.out; have hcz41_0 : w38.cell? ⟨gb465, 0, none⟩ = some (.int .i64 0) := (blk_cell BK465.out 0).trans rfl; have hcz41_1 : w38.cell? ⟨gb465, 1, none⟩ = some (.int .i64 0) := (blk_cell BK465.out 1).trans rfl; have hcz41_2 : w38.cell? ⟨gb465, 2, none⟩ = some (.slice none 0 0) := (blk_cell BK465.out 2).trans rfl; have hfz41_0 := blk_frozen BK465.out 0; have hfz41_1 := blk_frozen BK465.out 1; have hfz41_2 := blk_frozen BK465.out 2; obtain ⟨Ao42, co42, eo42⟩ := Kd.R_slice HO464.out; subst eo42) | ((with_reducible refine gate_callee (f := 16) rfl ?_); refine goesL_ (some 43) rfl rfl Try.func16 (by kernel_rfl) rfl #[.slice A2 l2.length c2] rfl zt3 ?_; (with_reducible refine (laws_toIntS.calls k _ _ l2 t466 _ ?side1 ?side2 A20.out).mono ?_); (case side1 => exact Kd.C_below HR2.out zt1); (case side2 => exact HC2.out); rintro e w43 ⟨v467, rfl, ho0, hb⟩; refine ⟨_, rfl, ?_⟩; have n0_ := Aside0.mk (Kd.R_elder' zt26 (Kd.R_base ho0) hb); have n1_ := Aside0.mk (Kd.R_elder' zt25 (Kd.R_base ho0) hb); have n2_ := Aside0.mk (Kd.R_elder' zt24 (Kd.R_base ho0) hb); have n3_ := Aside0.mk (Kd.R_elder' zt23 (Kd.R_base ho0) hb); have n4_ := Aside0.mk (Kd.R_lower (Kd.R_new' (Kd.R_new' (Kd.R_new' (Kd.R_new' ho0 (Kd.R_lt zt26)) (Kd.R_lt zt25)) (Kd.R_lt zt24)) (Kd.R_lt zt23)) (below_size zt1)); have n5_ := Aside0.mk (blk_below (g := gb443) (o := .cells #[.int .i64 a0_0, .int .i64 a0_1, .slice A0_2 l0_2.length c0_2] 24 (0, 0)) (by (with_reducible repeat (first | refine blk_drewN ?_ _ | refine blk_drew ?_ | refine blk_alloc ?_ _)); refine blk_far ?_ NB443_465.out _; (with_reducible repeat (first | refine blk_drewN ?_ _ | refine blk_drew ?_ | refine blk_alloc ?_ _)); refine blk_far ?_ NB443_465.out _; (with_reducible repeat (first | refine blk_drewN ?_ _ | refine blk_drew ?_ | refine blk_alloc ?_ _)); refine blk_far ?_ NB443_465.out _; first | exact BK443.out | ((with_reducible repeat (first | refine blk_drewN ?_ _ | refine blk_drew ?_ | refine blk_alloc ?_ _)); exact BK443.out)) hb); have n6_ := Aside0.mk (blk_below (g := gb444) (o := .cells #[.int .i64 a1_0, .int .i64 a1_1] 26 (0, 0)) (by (with_reducible repeat (first | refine blk_drewN ?_ _ | refine blk_drew ?_ | refine blk_alloc ?_ _)); refine blk_far ?_ NB444_465.out _; (with_reducible repeat (first | refine blk_drewN ?_ _ | refine blk_drew ?_ | refine blk_alloc ?_ _)); refine blk_far ?_ NB444_465.out _; (with_reducible repeat (first | refine blk_drewN ?_ _ | refine blk_drew ?_ | refine blk_alloc ?_ _)); refine blk_far ?_ NB444_465.out _; first | exact BK444.out | ((with_reducible repeat (first | refine blk_drewN ?_ _ | refine blk_drew ?_ | refine blk_alloc ?_ _)); exact BK444.out)) hb); have n7_ := Aside0.mk (blk_below (g := gb465) (o := .cells #[.int .i64 t460, .int .i64 t461, .slice Ao42 t462.length co42] 30 (0, 0)) (by (with_reducible repeat (first | refine blk_drewN ?_ _ | refine blk_drew ?_ | refine blk_alloc ?_ _)); refine blk_put (cs := #[.int .i64 t460, .int .i64 t461, .slice none 0 0]) ?_ 2 _ rfl; (with_reducible repeat (first | refine blk_drewN ?_ _ | refine blk_drew ?_ | refine blk_alloc ?_ _)); refine blk_put (cs := #[.int .i64 t460, .int .i64 0, .slice none 0 0]) ?_ 1 _ rfl; (with_reducible repeat (first | refine blk_drewN ?_ _ | refine blk_drew ?_ | refine blk_alloc ?_ _)); refine blk_put (cs := #[.int .i64 0, .int .i64 0, .slice none 0 0]) ?_ 0 _ rfl; first | exact BK465.out | ((with_reducible repeat (first | refine blk_drewN ?_ _ | refine blk_drew ?_ | refine blk_alloc ?_ _)); exact BK465.out)) hb); have n8_ := Aside0.mk (below_step zt1 hb); clear HO450; clear HO455; clear HO458; clear HO464; clear BK443; clear BK444; clear BK465; clear HB; have HO450 := n0_; have HO455 := n1_; have HO458 := n2_; have HO464 := n3_; have HO468 := n4_; have BK443 := n5_; have BK444 := n6_; have BK465 := n7_; have HB := n8_; clear n0_ n1_ n2_ n3_ n4_ n5_ n6_ n7_ n8_; (try clear hb); (try clear hb2); (try clear hk); (try clear hi); (try clear ho0); (try clear hna_); (try clear hnb_)))
 have n0_ := Aside0.mk (Kd.R_drew HO450.out)
 have n1_ := Aside0.mk (Kd.R_drew HO455.out)
 have n2_ := Aside0.mk (Kd.R_drew HO458.out)
 have n3_ := Aside0.mk (Kd.R_drew HO464.out)
 have n4_ := Aside0.mk (Kd.R_drew HO468.out)
 have n5_ := Aside0.mk (blk_drew BK443.out)
 have n6_ := Aside0.mk (blk_drew BK444.out)
 have n7_ := Aside0.mk (blk_drew BK465.out)
 have n8_ := Aside0.mk (below_drew1 HB.out)
 clear HO450
 clear HO455
 clear HO458
 clear HO464
 clear HO468
 clear BK443
 clear BK444
 clear BK465
 clear HB
 have HO450 := n0_
 have HO455 := n1_
 have HO458 := n2_
 have HO464 := n3_
 have HO468 := n4_
 have BK443 := n5_
 have BK444 := n6_
 have BK465 := n7_
 have HB := n8_
 clear n0_ n1_ n2_ n3_ n4_ n5_ n6_ n7_ n8_
 refine start_ (n := 11) (S := fun w' => w'.cell? ⟨gb465, 0, none⟩ = some (.int .i64 t460) ∧ w'.cell? ⟨gb465, 1, none⟩ = some (.int .i64 t461) ∧ w'.cell? ⟨gb465, 2, none⟩ = some (.slice Ao42 t462.length co42) ∧ w'.cell? ⟨gb444, 0, none⟩ = some (.int .i64 a1_0) ∧ w'.cell? ⟨gb444, 1, none⟩ = some (.int .i64 a1_1)) (ds := []) #[false, false, false, false, false, false, false, false, false, false, false] (by kernel_rfl) rfl rfl ⟨(blk_cell BK465.out 0).trans rfl, (blk_cell BK465.out 1).trans rfl, (blk_cell BK465.out 2).trans rfl, (blk_cell BK444.out 0).trans rfl, (blk_cell BK444.out 1).trans rfl⟩ (fun hHeld => ?_); refine with_tabW laws_FnExactTurnTail.tab10 laws_FnExactTurnTail.bits10 (fun HT_ HW_ => ?_)
 generalize w43.drew = w44 at HO450 HO455 HO458 HO464 HO468 BK443 BK444 BK465 HB hHeld ⊢
 refine pure_ (i := 3) (N := some 48) (v := ?_) (a' := ?_) #[false, false, false, true, false, false, false, false, false, false, false] rfl rfl (any_of HT_.out (by kernel_rfl)) (fun _ _ _ h => h) (Or.inl ⟨by rfl, ?_⟩) ?_ ?_
 rotate_left
 ·intro w'
  go_simp
  with_reducible rfl
 rotate_left
 ·simp only [Act.put, List.setIfInBounds_toArray, List.set_cons_zero, List.set_cons_succ, i64_w, i32_w]
  rfl
 refine pure_ (i := 4) (N := some 49) (v := ?_) (a' := ?_) #[false, false, false, true, true, false, false, false, false, false, false] rfl rfl (any_of HT_.out (by kernel_rfl)) (fun _ _ _ h => h) (Or.inl ⟨by rfl, ?_⟩) ?_ ?_
 rotate_left
 ·intro w'
  go_simp
  with_reducible rfl
 rotate_left
 ·simp only [Act.put, List.setIfInBounds_toArray, List.set_cons_zero, List.set_cons_succ, i64_w, i32_w]
  rfl
 refine take_ (i := 0) (N := some 45) (v := ?_) (a' := ?_) #[true, false, false, true, true, false, false, false, false, false, false] rfl rfl (take_ofW HT_.out HW_.out (by kernel_rfl)) (fun _ _ _ h => h) (Or.inl ⟨by rfl, ?_⟩) hHeld ?_ ?_
 rotate_left
 ·rintro w' ⟨s0, s1, s2, s3, s4⟩
  go_simp
  with_reducible rfl
 rotate_left
 ·simp only [Act.put, List.setIfInBounds_toArray, List.set_cons_zero, List.set_cons_succ, i64_w, i32_w]
  rfl
 refine take_ (i := 1) (N := some 46) (v := ?_) (a' := ?_) #[true, true, false, true, true, false, false, false, false, false, false] rfl rfl (take_ofW HT_.out HW_.out (by kernel_rfl)) (fun _ _ _ h => h) (Or.inl ⟨by rfl, ?_⟩) hHeld ?_ ?_
 rotate_left
 ·rintro w' ⟨s0, s1, s2, s3, s4⟩
  go_simp
  with_reducible rfl
 rotate_left
 ·simp only [Act.put, List.setIfInBounds_toArray, List.set_cons_zero, List.set_cons_succ, i64_w, i32_w]
  rfl
 refine one_ (i := 2) (N := some 47) #[true, true, true, true, true, false, false, false, false, false, false] rfl rfl (one_of HT_.out (by kernel_rfl)) (by decide) (fun K hK => ?_)
 refine goes_ Try.func15 (by kernel_rfl) rfl #[.agg #[.int .i64 a1_0, .int .i64 a1_1]] (by rfl) rfl rfl zt3 ?_
 with_reducible refine (laws_toLeaper.calls a1_0 a1_1 t469 t470 _ A21.out).mono ?_
 rintro e w45 ⟨rfl, hb⟩
 refine ⟨_, rfl, ?_⟩
 have n0_ := Aside0.mk (Kd.R_below zt15 hb)
 have n1_ := Aside0.mk (Kd.R_below zt17 hb)
 have n2_ := Aside0.mk (Kd.R_below zt19 hb)
 have n3_ := Aside0.mk (Kd.R_below zt30 hb)
 have n4_ := Aside0.mk (Kd.R_below zt35 hb)
 have n5_ := Aside0.mk (blk_below (g := gb443) (o := .cells #[.int .i64 a0_0, .int .i64 a0_1, .slice A0_2 l0_2.length c0_2] 24 (0, 0)) zt2 hb)
 have n6_ := Aside0.mk (blk_below (g := gb444) (o := .cells #[.int .i64 a1_0, .int .i64 a1_1] 26 (0, 0)) zt4 hb)
 have n7_ := Aside0.mk (blk_below (g := gb465) (o := .cells #[.int .i64 t460, .int .i64 t461, .slice Ao42 t462.length co42] 30 (0, 0)) zt6 hb)
 have n8_ := Aside0.mk (below_step zt1 hb)
 clear HO450
 clear HO455
 clear HO458
 clear HO464
 clear HO468
 clear BK443
 clear BK444
 clear BK465
 clear HB
 have HO450 := n0_
 have HO455 := n1_
 have HO458 := n2_
 have HO464 := n3_
 have HO468 := n4_
 have BK443 := n5_
 have BK444 := n6_
 have BK465 := n7_
 have HB := n8_
 clear n0_ n1_ n2_ n3_ n4_ n5_ n6_ n7_ n8_
 (try clear hb)
 (try clear hb2)
 (try clear hk)
 (try clear hi)
 (try clear hna_)
 (try clear hnb_)
 obtain ⟨Ao46, co46, eo46⟩ := Kd.R_slice HO468.out
 (first | subst eo46 | (injection eo46 with f1_ f2_ f3_; have f4_ := f1_.symm; have f5_ := f3_.symm; clear f1_ f2_ f3_; subst f4_; subst f5_))
 refine hK.out _ _ ⟨(blk_cell BK465.out 0).trans rfl, (blk_cell BK465.out 1).trans rfl, (blk_cell BK465.out 2).trans rfl, (blk_cell BK444.out 0).trans rfl, (blk_cell BK444.out 1).trans rfl⟩ (fun hHeld => ?_)
 clear hK K
 refine norm_ (a' := ?_) ?_ ?_
 rotate_left
 ·show Act.put _ (some 47) _ = _
  simp only [Act.put, List.setIfInBounds_toArray, List.set_cons_zero, List.set_cons_succ, i64_w, i32_w]
  rfl
 refine one_ (i := 5) (N := some 50) #[true, true, true, true, true, true, false, false, false, false, false] rfl rfl (one_of HT_.out (by kernel_rfl)) (by decide) (fun K hK => ?_)
 refine goes_ Try.func24 (by kernel_rfl) rfl #[.agg #[.int .i64 t460, .int .i64 t461, .slice Ao42 t462.length co42], .agg #[.int .i64 t469, .int .i64 t470], .slice Ao46 t466.length co46, .int .i64 a3] (by rfl) rfl rfl zt3 ?_
 with_reducible refine (impl_TurnTail.calls k t460 t461 _ _ t462 t469 t470 _ _ t466 a3 t471 t474 _ ?side1 ?side2 ?side3 ?side4 A22.out).mono ?_
 (case side1 => repeat (first | exact (Kd.R_reads' HO464.out).2.2 | (with_reducible refine Kd.C_alloc ?_ _) | (with_reducible refine Kd.C_drewN ?_ _) | (with_reducible refine Kd.C_drew ?_)))
 (case side2 => exact (Kd.R_reads' HO464.out).2.1)
 (case side3 => repeat (first | exact (Kd.R_reads' HO468.out).2.2 | (with_reducible refine Kd.C_alloc ?_ _) | (with_reducible refine Kd.C_drewN ?_ _) | (with_reducible refine Kd.C_drew ?_)))
 (case side4 => exact (Kd.R_reads' HO468.out).2.1)
 rintro e w47 ⟨v472, rfl, ho0, hb⟩
 refine ⟨_, rfl, ?_⟩
 have n0_ := Aside0.mk (Kd.R_elder' zt15 (Kd.R_base ho0) hb)
 have n1_ := Aside0.mk (Kd.R_elder' zt17 (Kd.R_base ho0) hb)
 have n2_ := Aside0.mk (Kd.R_elder' zt19 (Kd.R_base ho0) hb)
 have n3_ := Aside0.mk (Kd.R_elder' zt30 (Kd.R_base ho0) hb)
 have n4_ := Aside0.mk (Kd.R_elder' zt35 (Kd.R_base ho0) hb)
 have n5_ := Aside0.mk (Kd.R_lower (Kd.R_new' (Kd.R_new' (Kd.R_new' (Kd.R_new' (Kd.R_new' ho0 (Kd.R_lt zt15)) (Kd.R_lt zt17)) (Kd.R_lt zt19)) (Kd.R_lt zt30)) (Kd.R_lt zt35)) (below_size zt1))
 have n6_ := Aside0.mk (blk_below (g := gb443) (o := .cells #[.int .i64 a0_0, .int .i64 a0_1, .slice A0_2 l0_2.length c0_2] 24 (0, 0)) zt2 hb)
 have n7_ := Aside0.mk (blk_below (g := gb444) (o := .cells #[.int .i64 a1_0, .int .i64 a1_1] 26 (0, 0)) zt4 hb)
 have n8_ := Aside0.mk (blk_below (g := gb465) (o := .cells #[.int .i64 t460, .int .i64 t461, .slice Ao42 t462.length co42] 30 (0, 0)) zt6 hb)
 have n9_ := Aside0.mk (below_step zt1 hb)
 clear HO450
 clear HO455
 clear HO458
 clear HO464
 clear HO468
 clear BK443
 clear BK444
 clear BK465
 clear HB
 have HO450 := n0_
 have HO455 := n1_
 have HO458 := n2_
 have HO464 := n3_
 have HO468 := n4_
 have HO473 := n5_
 have BK443 := n6_
 have BK444 := n7_
 have BK465 := n8_
 have HB := n9_
 clear n0_ n1_ n2_ n3_ n4_ n5_ n6_ n7_ n8_ n9_
 (try clear hb)
 (try clear hb2)
 (try clear hk)
 (try clear hi)
 (try clear ho0)
 (try clear hna_)
 (try clear hnb_)
 refine hK.out _ _ ⟨(blk_cell BK465.out 0).trans rfl, (blk_cell BK465.out 1).trans rfl, (blk_cell BK465.out 2).trans rfl, (blk_cell BK444.out 0).trans rfl, (blk_cell BK444.out 1).trans rfl⟩ (fun hHeld => ?_)
 clear hK K
 refine norm_ (a' := ?_) ?_ ?_
 rotate_left
 ·show Act.put _ (some 50) _ = _
  simp only [Act.put, List.setIfInBounds_toArray, List.set_cons_zero, List.set_cons_succ, i64_w, i32_w]
  rfl
 refine pure_ (i := 6) (N := some 44) (v := ?_) (a' := ?_) #[true, true, true, true, true, true, true, false, false, false, false] rfl rfl (any_of HT_.out (by kernel_rfl)) (fun _ _ _ h => h) (Or.inl ⟨by rfl, ?_⟩) ?_ ?_
 rotate_left
 ·intro w'
  go_simp
  with_reducible rfl
 rotate_left
 ·simp only [Act.put, List.setIfInBounds_toArray, List.set_cons_zero, List.set_cons_succ, i64_w, i32_w]
  rfl
 refine pure_ (i := 7) (N := some 51) (v := ?_) (a' := ?_) #[true, true, true, true, true, true, true, true, false, false, false] rfl rfl (any_of HT_.out (by kernel_rfl)) (fun _ _ _ h => h) (Or.inl ⟨by rfl, ?_⟩) ?_ ?_
 rotate_left
 ·intro w'
  go_simp
  with_reducible rfl
 rotate_left
 ·simp only [Act.put, List.setIfInBounds_toArray, List.set_cons_zero, List.set_cons_succ, i64_w, i32_w]
  rfl
 refine pure_ (i := 8) (N := some 52) (v := ?_) (a' := ?_) #[true, true, true, true, true, true, true, true, true, false, false] rfl rfl (any_of HT_.out (by kernel_rfl)) (fun _ _ _ h => h) (Or.inl ⟨by rfl, ?_⟩) ?_ ?_
 rotate_left
 ·intro w'
  go_simp
  with_reducible rfl
 rotate_left
 ·simp only [Act.put, List.setIfInBounds_toArray, List.set_cons_zero, List.set_cons_succ, i64_w, i32_w]
  rfl
 refine pure_ (i := 9) (N := some 14) (v := ?_) (a' := ?_) #[true, true, true, true, true, true, true, true, true, true, false] rfl rfl (any_of HT_.out (by kernel_rfl)) (fun _ _ _ h => h) (Or.inl ⟨by rfl, ?_⟩) ?_ ?_
 rotate_left
 ·intro w'
  go_simp
  with_reducible rfl
 rotate_left
 ·simp only [Act.put, List.setIfInBounds_toArray, List.set_cons_zero, List.set_cons_succ, i64_w, i32_w]
  rfl
 refine pure_ (i := 10) (N := some 15) (v := ?_) (a' := ?_) #[true, true, true, true, true, true, true, true, true, true, true] rfl rfl (any_of HT_.out (by kernel_rfl)) (fun _ _ _ h => h) (Or.inl ⟨by rfl, ?_⟩) ?_ ?_
 rotate_left
 ·intro w'
  go_simp
  with_reducible rfl
 rotate_left
 ·simp only [Act.put, List.setIfInBounds_toArray, List.set_cons_zero, List.set_cons_succ, i64_w, i32_w]
  rfl
 refine done_ (done_of HT_.out (by kernel_rfl)) ?_
 go_upto_region 11 with (fail)
 go_cut [61] (fun v61 wc => ∃ (kq : Nat) (x61_22 : Bool), v61 = .bool x61_22 ∧ Aside0 (laws_FnExactTurnTail.j0 kq l2 a3 t456 t459 t466 t471 t474 x61_22 a0_0 a0_1 l0_2 a1_0 a1_1 t460 t461 t462 = some r) ∧ Aside0 (kq ≤ k) ∧ Aside0 (Kd.R (Kd.int .i64) 3 wc w.heap.size (fun k_ => some k_ ≠ ((.slice Ao46 t466.length co46) : Value).ownBlock ∧ some k_ ≠ (v472 : Value).ownBlock ∧ some k_ ≠ ((.slice Ao42 t462.length co42) : Value).ownBlock) v457 t456) ∧ Aside0 (Kd.R (Kd.int .i64) 3 wc w.heap.size (fun k_ => some k_ ≠ (v457 : Value).ownBlock ∧ some k_ ≠ (v472 : Value).ownBlock ∧ some k_ ≠ ((.slice Ao42 t462.length co42) : Value).ownBlock) (.slice Ao46 t466.length co46) t466) ∧ Aside0 (Kd.R (Kd.int .i64) 3 wc w.heap.size (fun k_ => some k_ ≠ (v457 : Value).ownBlock ∧ some k_ ≠ ((.slice Ao46 t466.length co46) : Value).ownBlock ∧ some k_ ≠ ((.slice Ao42 t462.length co42) : Value).ownBlock) v472 t471) ∧ Aside0 (Kd.R (Kd.int .i64) 3 wc w.heap.size (fun k_ => some k_ ≠ (v457 : Value).ownBlock ∧ some k_ ≠ ((.slice Ao46 t466.length co46) : Value).ownBlock ∧ some k_ ≠ (v472 : Value).ownBlock) (.slice Ao42 t462.length co42) t462) ∧ Aside0 (wc.heap[gb443]? = some (.cells #[.int .i64 a0_0, .int .i64 a0_1, (.slice A0_2 l0_2.length c0_2)] 24 (0, 0))) ∧ Aside0 (wc.heap[gb444]? = some (.cells #[.int .i64 a1_0, .int .i64 a1_1] 26 (0, 0))) ∧ Aside0 (wc.heap[gb465]? = some (.cells #[.int .i64 t460, .int .i64 t461, (.slice Ao42 t462.length co42)] 30 (0, 0))) ∧ Aside0 (Below w.heap.size w wc))
 case first =>
  have H := HC23.out
  clear HC23
  replace H := Option.bind_eq_some_iff.mp H
  obtain ⟨t475, A480, H⟩ := H
  replace H : (if t475 = true then (laws_FnExactTurnTail.j0 k l2 a3 t456 t459 t466 t471 t474 (t474 != t459) a0_0 a0_1 l0_2 a1_0 a1_1 t460 t461 t462) else (laws_FnExactTurnTail.j0 k l2 a3 t456 t459 t466 t471 t474 true a0_0 a0_1 l0_2 a1_0 a1_1 t460 t461 t462)) = some r := H
  have A48 := Aside0.mk A480
  clear A480
  by_cases c49 : t475 = true
  ·subst c49
   have H1 : (laws_FnExactTurnTail.j0 k l2 a3 t456 t459 t466 t471 t474 (t474 != t459) a0_0 a0_1 l0_2 a1_0 a1_1 t460 t461 t462) = some r := by rw [if_pos rfl] at H; exact H
   clear H
   have H := H1
   clear H1
   have H' := Aside0.mk H
   clear H
   obtain ⟨Ao50, co50, eo50⟩ := Kd.R_slice HO473.out
   subst eo50
   obtain ⟨Ao51, co51, eo51⟩ := Kd.R_slice HO458.out
   subst eo51
   go_wp2_with (first | ((with_reducible refine gate_callee (f := 18) rfl ?_); refine goesL_ (some 55) rfl rfl Try.func18 (by kernel_rfl) rfl #[.slice Ao50 t471.length co50, .slice Ao51 t456.length co51] rfl zt3 ?_; (with_reducible refine (laws_eqIntS.calls k _ _ t471 _ _ t456 true _ ?side1 ?side2 ?side3 ?side4 A48.out).mono ?_); (case side1 => exact zt46); (case side2 => exact (Kd.R_reads' HO473.out).2.1); (case side3 => exact zt47); (case side4 => exact (Kd.R_reads' HO458.out).2.1); rintro e w' ⟨rfl, ⟨nd, rfl⟩⟩; refine ⟨_, rfl, ?_⟩))
   go_meet
   case rel => exact ⟨_, ((t474 != t459)), zt34, H', ⟨by first | omega | exact Nat.le_refl _⟩, ⟨zt42⟩, ⟨zt40⟩, ⟨zt39⟩, ⟨zt41⟩, ⟨zt2⟩, ⟨zt4⟩, ⟨zt6⟩, ⟨zt1⟩⟩
  replace c49 := Bool.eq_false_iff.mpr c49
  subst c49
  have H1 : (laws_FnExactTurnTail.j0 k l2 a3 t456 t459 t466 t471 t474 true a0_0 a0_1 l0_2 a1_0 a1_1 t460 t461 t462) = some r := by rw [if_neg (show ¬ (false = true) by decide)] at H; exact H
  clear H
  have H := H1
  clear H1
  have H' := Aside0.mk H
  clear H
  obtain ⟨Ao52, co52, eo52⟩ := Kd.R_slice HO473.out
  subst eo52
  obtain ⟨Ao53, co53, eo53⟩ := Kd.R_slice HO458.out
  subst eo53
  go_wp2_with (first | ((with_reducible refine gate_callee (f := 18) rfl ?_); refine goesL_ (some 55) rfl rfl Try.func18 (by kernel_rfl) rfl #[.slice Ao52 t471.length co52, .slice Ao53 t456.length co53] rfl zt3 ?_; (with_reducible refine (laws_eqIntS.calls k _ _ t471 _ _ t456 false _ ?side1 ?side2 ?side3 ?side4 A48.out).mono ?_); (case side1 => exact zt46); (case side2 => exact (Kd.R_reads' HO473.out).2.1); (case side3 => exact zt47); (case side4 => exact (Kd.R_reads' HO458.out).2.1); rintro e w' ⟨rfl, ⟨nd, rfl⟩⟩; refine ⟨_, rfl, ?_⟩))
  go_meet
  case rel => exact ⟨_, (true), zt34, H', ⟨by first | omega | exact Nat.le_refl _⟩, ⟨zt42⟩, ⟨zt40⟩, ⟨zt39⟩, ⟨zt41⟩, ⟨zt2⟩, ⟨zt4⟩, ⟨zt6⟩, ⟨zt1⟩⟩
 case rest =>
  clear HC23
  try clear c1; try clear c2; try clear p2; try clear c3; try clear c4; try clear c5; try clear c5b0; try clear c5b1; try clear c9; try clear c9b0; try clear c12; try clear c14; try clear c15; try clear c16; try clear c18; try clear c23; try clear c24; try clear c26; try clear c39; try clear c40; try clear c49; try clear hcz13_0; try clear hcz13_1; try clear hcz13_2; try clear hcz27_0; try clear hcz27_1; try clear hcz27_2; try clear hcz36_0; try clear hcz36_1; try clear hcz36_2; try clear hcz41_0; try clear hcz41_1; try clear hcz41_2; try clear hfz13_0; try clear hfz13_1; try clear hfz13_2; try clear hfz27_0
  try clear hfz27_1; try clear hfz27_2; try clear hfz36_0; try clear hfz36_1; try clear hfz36_2; try clear hfz41_0; try clear hfz41_1; try clear hfz41_2
  obtain ⟨kq, x61_22, rfl, HA, HJ22, HO_10, HO_13, HO_14, HO_466002, BK443, BK444, BK465, HB⟩ := hcut
  cases kq with
  | zero => exact absurd HA.out (by simp [laws_FnExactTurnTail.j0])
  | succ kj22 =>
   have H := HA.out
   clear HA
   simp only [laws_FnExactTurnTail.j0] at H
   by_cases c54 : x61_22 = true
   ·subst c54
    have H1 : (some false) = some r := by rw [if_pos rfl] at H; exact H
    clear H
    have H := H1
    clear H1
    obtain rfl := Option.some.inj H
    go_wp2
    go_ret
    exact ⟨zt16, zt1⟩
   replace c54 := Bool.eq_false_iff.mpr c54
   subst c54
   have H1 : ((laws_toBoard.f kj22 a0_0 a0_1 l0_2).bind fun bt476 => ((laws_eqBoard.f kj22 t460 t461 t462 bt476.1 bt476.2.1 bt476.2.2).bind fun t481 => (if t481 = true then ((laws_toIntS.f kj22 l2).bind fun t482 => ((laws_eqIntS.f kj22 t466 t482).bind fun t485 => (if t485 = true then ((laws_markBoard.f kj22 t460 t461 t462 1).bind fun bt486 => ((laws_markIntS.f kj22 t466 bt486.1).bind fun bt488 => (if bt488.1 < 0 then (laws_FnExactTurnTail.j1 kj22 l2 a3 t456 t459 t471 true a0_0 a0_1 l0_2 a1_0 a1_1) else ((laws_eqIntS.f kj22 t471 t456).bind fun t490 => (if t490 = true then (laws_FnExactTurnTail.j1 kj22 l2 a3 t456 t459 t471 (t474 != t459) a0_0 a0_1 l0_2 a1_0 a1_1) else (laws_FnExactTurnTail.j1 kj22 l2 a3 t456 t459 t471 true a0_0 a0_1 l0_2 a1_0 a1_1)))))) else (some false)))) else (some false)))) = some r := by rw [if_neg (show ¬ (false = true) by decide)] at H; exact H
   clear H
   have H := H1
   clear H1
   replace H := Option.bind_eq_some_iff.mp H
   obtain ⟨⟨t476, t477, t478⟩, A550, H⟩ := H
   replace H : ((laws_eqBoard.f kj22 t460 t461 t462 t476 t477 t478).bind fun t481 => (if t481 = true then ((laws_toIntS.f kj22 l2).bind fun t482 => ((laws_eqIntS.f kj22 t466 t482).bind fun t485 => (if t485 = true then ((laws_markBoard.f kj22 t460 t461 t462 1).bind fun bt486 => ((laws_markIntS.f kj22 t466 bt486.1).bind fun bt488 => (if bt488.1 < 0 then (laws_FnExactTurnTail.j1 kj22 l2 a3 t456 t459 t471 true a0_0 a0_1 l0_2 a1_0 a1_1) else ((laws_eqIntS.f kj22 t471 t456).bind fun t490 => (if t490 = true then (laws_FnExactTurnTail.j1 kj22 l2 a3 t456 t459 t471 (t474 != t459) a0_0 a0_1 l0_2 a1_0 a1_1) else (laws_FnExactTurnTail.j1 kj22 l2 a3 t456 t459 t471 true a0_0 a0_1 l0_2 a1_0 a1_1)))))) else (some false)))) else (some false))) = some r := H
   have A55 := Aside0.mk A550
   clear A550
   replace H := Option.bind_eq_some_iff.mp H
   obtain ⟨t481, A560, H⟩ := H
   replace H : (if t481 = true then ((laws_toIntS.f kj22 l2).bind fun t482 => ((laws_eqIntS.f kj22 t466 t482).bind fun t485 => (if t485 = true then ((laws_markBoard.f kj22 t460 t461 t462 1).bind fun bt486 => ((laws_markIntS.f kj22 t466 bt486.1).bind fun bt488 => (if bt488.1 < 0 then (laws_FnExactTurnTail.j1 kj22 l2 a3 t456 t459 t471 true a0_0 a0_1 l0_2 a1_0 a1_1) else ((laws_eqIntS.f kj22 t471 t456).bind fun t490 => (if t490 = true then (laws_FnExactTurnTail.j1 kj22 l2 a3 t456 t459 t471 (t474 != t459) a0_0 a0_1 l0_2 a1_0 a1_1) else (laws_FnExactTurnTail.j1 kj22 l2 a3 t456 t459 t471 true a0_0 a0_1 l0_2 a1_0 a1_1)))))) else (some false)))) else (some false)) = some r := H
   have A56 := Aside0.mk A560
   clear A560
   by_cases c57 : t481 = true
   rotate_left
   ·replace c57 := Bool.eq_false_iff.mpr c57
    subst c57
    have H1 : (some false) = some r := by rw [if_neg (show ¬ (false = true) by decide)] at H; exact H
    clear H
    have H := H1
    clear H1
    obtain rfl := Option.some.inj H
    try go_wp2
    have n0_ := Aside0.mk (Kd.R_drew HO_10.out)
    have n1_ := Aside0.mk (Kd.R_drew HO_13.out)
    have n2_ := Aside0.mk (Kd.R_drew HO_14.out)
    have n3_ := Aside0.mk (Kd.R_drew HO_466002.out)
    have n4_ := Aside0.mk (blk_drew BK443.out)
    have n5_ := Aside0.mk (blk_drew BK444.out)
    have n6_ := Aside0.mk (blk_drew BK465.out)
    have n7_ := Aside0.mk (below_drew1 HB.out)
    clear HO_10
    clear HO_13
    clear HO_14
    clear HO_466002
    clear BK443
    clear BK444
    clear BK465
    clear HB
    have HO_10 := n0_
    have HO_13 := n1_
    have HO_14 := n2_
    have HO_466002 := n3_
    have BK443 := n4_
    have BK444 := n5_
    have BK465 := n6_
    have HB := n7_
    clear n0_ n1_ n2_ n3_ n4_ n5_ n6_ n7_
    refine start_ (n := 5) (S := fun w' => w'.cell? ⟨gb465, 0, none⟩ = some (.int .i64 t460) ∧ w'.cell? ⟨gb465, 1, none⟩ = some (.int .i64 t461) ∧ w'.cell? ⟨gb465, 2, none⟩ = some (.slice Ao42 t462.length co42) ∧ w'.cell? ⟨gb443, 0, none⟩ = some (.int .i64 a0_0) ∧ w'.cell? ⟨gb443, 1, none⟩ = some (.int .i64 a0_1) ∧ w'.cell? ⟨gb443, 2, none⟩ = some (.slice A0_2 l0_2.length c0_2)) (ds := []) #[false, false, false, false, false] (by kernel_rfl) rfl rfl ⟨(blk_cell BK465.out 0).trans rfl, (blk_cell BK465.out 1).trans rfl, (blk_cell BK465.out 2).trans rfl, (blk_cell BK443.out 0).trans rfl, (blk_cell BK443.out 1).trans rfl, (blk_cell BK443.out 2).trans rfl⟩ (fun hHeld => ?_)
    generalize wc.drew = w121 at HO_10 HO_13 HO_14 HO_466002 BK443 BK444 BK465 HB hHeld ⊢
    refine take_ (i := 0) (N := some 62) (v := ?_) (a' := ?_) #[true, false, false, false, false] rfl rfl (by kernel_rfl) (fun _ _ _ h => h) (Or.inl ⟨by rfl, ?_⟩) hHeld ?_ ?_
    rotate_left
    ·rintro w' ⟨s0, s1, s2, s3, s4, s5⟩
     go_simp
     with_reducible rfl
    rotate_left
    ·simp only [Act.put, List.setIfInBounds_toArray, List.set_cons_zero, List.set_cons_succ, i64_w, i32_w]
     rfl
    refine take_ (i := 1) (N := some 63) (v := ?_) (a' := ?_) #[true, true, false, false, false] rfl rfl (by kernel_rfl) (fun _ _ _ h => h) (Or.inl ⟨by rfl, ?_⟩) hHeld ?_ ?_
    rotate_left
    ·rintro w' ⟨s0, s1, s2, s3, s4, s5⟩
     go_simp
     with_reducible rfl
    rotate_left
    ·simp only [Act.put, List.setIfInBounds_toArray, List.set_cons_zero, List.set_cons_succ, i64_w, i32_w]
     rfl
    refine one_ (i := 2) (N := some 64) #[true, true, true, false, false] rfl rfl (by kernel_rfl) (by decide) (fun K hK => ?_)
    refine goes_ Try.func14 (by kernel_rfl) rfl #[.agg #[.int .i64 a0_0, .int .i64 a0_1, .slice A0_2 l0_2.length c0_2]] (by rfl) rfl rfl zt3 ?_
    with_reducible refine (laws_toBoard.calls kj22 a0_0 a0_1 _ _ l0_2 t476 t477 t478 _ ?side1 ?side2 A55.out).mono ?_
    (case side1 => exact zt12)
    (case side2 => exact HC0_2.out)
    rintro e w122 ⟨v479, rfl, ho0, hb⟩
    refine ⟨_, rfl, ?_⟩
    have n0_ := Aside0.mk (Kd.R_elder' zt9 (Kd.R_base ho0) hb)
    have n1_ := Aside0.mk (Kd.R_elder' zt11 (Kd.R_base ho0) hb)
    have n2_ := Aside0.mk (Kd.R_elder' zt8 (Kd.R_base ho0) hb)
    have n3_ := Aside0.mk (Kd.R_elder' zt7 (Kd.R_base ho0) hb)
    have n4_ := Aside0.mk (Kd.R_lower (Kd.R_new' (Kd.R_new' (Kd.R_new' (Kd.R_new' ho0 (Kd.R_lt zt9)) (Kd.R_lt zt11)) (Kd.R_lt zt8)) (Kd.R_lt zt7)) (below_size zt1))
    have n5_ := Aside0.mk (blk_below (g := gb443) (o := .cells #[.int .i64 a0_0, .int .i64 a0_1, .slice A0_2 l0_2.length c0_2] 24 (0, 0)) zt2 hb)
    have n6_ := Aside0.mk (blk_below (g := gb444) (o := .cells #[.int .i64 a1_0, .int .i64 a1_1] 26 (0, 0)) zt4 hb)
    have n7_ := Aside0.mk (blk_below (g := gb465) (o := .cells #[.int .i64 t460, .int .i64 t461, .slice Ao42 t462.length co42] 30 (0, 0)) zt6 hb)
    have n8_ := Aside0.mk (below_step zt1 hb)
    clear HO_10
    clear HO_13
    clear HO_14
    clear HO_466002
    clear BK443
    clear BK444
    clear BK465
    clear HB
    have HO_10 := n0_
    have HO_13 := n1_
    have HO_14 := n2_
    have HO_466002 := n3_
    have HO480 := n4_
    have BK443 := n5_
    have BK444 := n6_
    have BK465 := n7_
    have HB := n8_
    clear n0_ n1_ n2_ n3_ n4_ n5_ n6_ n7_ n8_
    (try clear hb)
    (try clear hb2)
    (try clear hk)
    (try clear hi)
    (try clear ho0)
    (try clear hna_)
    (try clear hnb_)
    obtain ⟨Ao123, co123, eo123⟩ := Kd.R_slice HO480.out
    (first | subst eo123 | (injection eo123 with f1_ f2_ f3_; have f4_ := f1_.symm; have f5_ := f3_.symm; clear f1_ f2_ f3_; subst f4_; subst f5_))
    refine hK.out _ _ ⟨(blk_cell BK465.out 0).trans rfl, (blk_cell BK465.out 1).trans rfl, (blk_cell BK465.out 2).trans rfl, (blk_cell BK443.out 0).trans rfl, (blk_cell BK443.out 1).trans rfl, (blk_cell BK443.out 2).trans rfl⟩ (fun hHeld => ?_)
    clear hK K
    refine norm_ (a' := ?_) ?_ ?_
    rotate_left
    ·show Act.put _ (some 64) _ = _
     simp only [Act.put, List.setIfInBounds_toArray, List.set_cons_zero, List.set_cons_succ, i64_w, i32_w]
     rfl
    refine one_ (i := 3) (N := some 65) #[true, true, true, true, false] rfl rfl (by kernel_rfl) (by decide) (fun K hK => ?_)
    refine goes_ Try.func19 (by kernel_rfl) rfl #[.agg #[.int .i64 t460, .int .i64 t461, .slice Ao42 t462.length co42], .agg #[.int .i64 t476, .int .i64 t477, .slice Ao123 t478.length co123]] (by rfl) rfl rfl zt3 ?_
    with_reducible refine (laws_eqBoard.calls kj22 t460 t461 _ _ t462 t476 t477 _ _ t478 false _ ?side1 ?side2 ?side3 ?side4 A56.out).mono ?_
    (case side1 => exact zt28)
    (case side2 => exact (Kd.R_reads' HO_466002.out).2.1)
    (case side3 => exact zt29)
    (case side4 => exact (Kd.R_reads' HO480.out).2.1)
    rintro e w124 ⟨rfl, hb⟩
    refine ⟨_, rfl, ?_⟩
    have n0_ := Aside0.mk (Kd.R_below zt9 hb)
    have n1_ := Aside0.mk (Kd.R_below zt11 hb)
    have n2_ := Aside0.mk (Kd.R_below zt8 hb)
    have n3_ := Aside0.mk (Kd.R_below zt7 hb)
    have n4_ := Aside0.mk (Kd.R_below zt18 hb)
    have n5_ := Aside0.mk (blk_below (g := gb443) (o := .cells #[.int .i64 a0_0, .int .i64 a0_1, .slice A0_2 l0_2.length c0_2] 24 (0, 0)) zt2 hb)
    have n6_ := Aside0.mk (blk_below (g := gb444) (o := .cells #[.int .i64 a1_0, .int .i64 a1_1] 26 (0, 0)) zt4 hb)
    have n7_ := Aside0.mk (blk_below (g := gb465) (o := .cells #[.int .i64 t460, .int .i64 t461, .slice Ao42 t462.length co42] 30 (0, 0)) zt6 hb)
    have n8_ := Aside0.mk (below_step zt1 hb)
    clear HO_10
    clear HO_13
    clear HO_14
    clear HO_466002
    clear HO480
    clear BK443
    clear BK444
    clear BK465
    clear HB
    have HO_10 := n0_
    have HO_13 := n1_
    have HO_14 := n2_
    have HO_466002 := n3_
    have HO480 := n4_
    have BK443 := n5_
    have BK444 := n6_
    have BK465 := n7_
    have HB := n8_
    clear n0_ n1_ n2_ n3_ n4_ n5_ n6_ n7_ n8_
    (try clear hb)
    (try clear hb2)
    (try clear hk)
    (try clear hi)
    (try clear hna_)
    (try clear hnb_)
    refine hK.out _ _ ⟨(blk_cell BK465.out 0).trans rfl, (blk_cell BK465.out 1).trans rfl, (blk_cell BK465.out 2).trans rfl, (blk_cell BK443.out 0).trans rfl, (blk_cell BK443.out 1).trans rfl, (blk_cell BK443.out 2).trans rfl⟩ (fun hHeld => ?_)
    clear hK K
    refine norm_ (a' := ?_) ?_ ?_
    rotate_left
    ·show Act.put _ (some 65) _ = _
     simp only [Act.put, List.setIfInBounds_toArray, List.set_cons_zero, List.set_cons_succ, i64_w, i32_w]
     rfl
    refine pure_ (i := 4) (N := some 66) (v := ?_) (a' := ?_) #[true, true, true, true, true] rfl rfl (by kernel_rfl) (fun _ _ _ h => h) (Or.inl ⟨by rfl, ?_⟩) ?_ ?_
    rotate_left
    ·intro w'
     go_simp
     with_reducible rfl
    rotate_left
    ·simp only [Act.put, List.setIfInBounds_toArray, List.set_cons_zero, List.set_cons_succ, i64_w, i32_w]
     rfl
    refine done_ (by kernel_rfl) ?_
    try go_wp2
    go_ret
    exact ⟨zt16, zt1⟩
   subst c57
   have H1 : ((laws_toIntS.f kj22 l2).bind fun t482 => ((laws_eqIntS.f kj22 t466 t482).bind fun t485 => (if t485 = true then ((laws_markBoard.f kj22 t460 t461 t462 1).bind fun bt486 => ((laws_markIntS.f kj22 t466 bt486.1).bind fun bt488 => (if bt488.1 < 0 then (laws_FnExactTurnTail.j1 kj22 l2 a3 t456 t459 t471 true a0_0 a0_1 l0_2 a1_0 a1_1) else ((laws_eqIntS.f kj22 t471 t456).bind fun t490 => (if t490 = true then (laws_FnExactTurnTail.j1 kj22 l2 a3 t456 t459 t471 (t474 != t459) a0_0 a0_1 l0_2 a1_0 a1_1) else (laws_FnExactTurnTail.j1 kj22 l2 a3 t456 t459 t471 true a0_0 a0_1 l0_2 a1_0 a1_1)))))) else (some false)))) = some r := by rw [if_pos rfl] at H; exact H
   clear H
   have H := H1
   clear H1
   replace H := Option.bind_eq_some_iff.mp H
   obtain ⟨t482, A580, H⟩ := H
   replace H : ((laws_eqIntS.f kj22 t466 t482).bind fun t485 => (if t485 = true then ((laws_markBoard.f kj22 t460 t461 t462 1).bind fun bt486 => ((laws_markIntS.f kj22 t466 bt486.1).bind fun bt488 => (if bt488.1 < 0 then (laws_FnExactTurnTail.j1 kj22 l2 a3 t456 t459 t471 true a0_0 a0_1 l0_2 a1_0 a1_1) else ((laws_eqIntS.f kj22 t471 t456).bind fun t490 => (if t490 = true then (laws_FnExactTurnTail.j1 kj22 l2 a3 t456 t459 t471 (t474 != t459) a0_0 a0_1 l0_2 a1_0 a1_1) else (laws_FnExactTurnTail.j1 kj22 l2 a3 t456 t459 t471 true a0_0 a0_1 l0_2 a1_0 a1_1)))))) else (some false))) = some r := H
   have A58 := Aside0.mk A580
   clear A580
   replace H := Option.bind_eq_some_iff.mp H
   obtain ⟨t485, A590, H⟩ := H
   replace H : (if t485 = true then ((laws_markBoard.f kj22 t460 t461 t462 1).bind fun bt486 => ((laws_markIntS.f kj22 t466 bt486.1).bind fun bt488 => (if bt488.1 < 0 then (laws_FnExactTurnTail.j1 kj22 l2 a3 t456 t459 t471 true a0_0 a0_1 l0_2 a1_0 a1_1) else ((laws_eqIntS.f kj22 t471 t456).bind fun t490 => (if t490 = true then (laws_FnExactTurnTail.j1 kj22 l2 a3 t456 t459 t471 (t474 != t459) a0_0 a0_1 l0_2 a1_0 a1_1) else (laws_FnExactTurnTail.j1 kj22 l2 a3 t456 t459 t471 true a0_0 a0_1 l0_2 a1_0 a1_1)))))) else (some false)) = some r := H
   have A59 := Aside0.mk A590
   clear A590
   by_cases c60 : t485 = true
   rotate_left
   ·replace c60 := Bool.eq_false_iff.mpr c60
    subst c60
    have H1 : (some false) = some r := by rw [if_neg (show ¬ (false = true) by decide)] at H; exact H
    clear H
    have H := H1
    clear H1
    obtain rfl := Option.some.inj H
    try go_wp2
    have n0_ := Aside0.mk (Kd.R_drew HO_10.out)
    have n1_ := Aside0.mk (Kd.R_drew HO_13.out)
    have n2_ := Aside0.mk (Kd.R_drew HO_14.out)
    have n3_ := Aside0.mk (Kd.R_drew HO_466002.out)
    have n4_ := Aside0.mk (blk_drew BK443.out)
    have n5_ := Aside0.mk (blk_drew BK444.out)
    have n6_ := Aside0.mk (blk_drew BK465.out)
    have n7_ := Aside0.mk (below_drew1 HB.out)
    clear HO_10
    clear HO_13
    clear HO_14
    clear HO_466002
    clear BK443
    clear BK444
    clear BK465
    clear HB
    have HO_10 := n0_
    have HO_13 := n1_
    have HO_14 := n2_
    have HO_466002 := n3_
    have BK443 := n4_
    have BK444 := n5_
    have BK465 := n6_
    have HB := n7_
    clear n0_ n1_ n2_ n3_ n4_ n5_ n6_ n7_
    refine start_ (n := 5) (S := fun w' => w'.cell? ⟨gb465, 0, none⟩ = some (.int .i64 t460) ∧ w'.cell? ⟨gb465, 1, none⟩ = some (.int .i64 t461) ∧ w'.cell? ⟨gb465, 2, none⟩ = some (.slice Ao42 t462.length co42) ∧ w'.cell? ⟨gb443, 0, none⟩ = some (.int .i64 a0_0) ∧ w'.cell? ⟨gb443, 1, none⟩ = some (.int .i64 a0_1) ∧ w'.cell? ⟨gb443, 2, none⟩ = some (.slice A0_2 l0_2.length c0_2)) (ds := []) #[false, false, false, false, false] (by kernel_rfl) rfl rfl ⟨(blk_cell BK465.out 0).trans rfl, (blk_cell BK465.out 1).trans rfl, (blk_cell BK465.out 2).trans rfl, (blk_cell BK443.out 0).trans rfl, (blk_cell BK443.out 1).trans rfl, (blk_cell BK443.out 2).trans rfl⟩ (fun hHeld => ?_)
    generalize wc.drew = w115 at HO_10 HO_13 HO_14 HO_466002 BK443 BK444 BK465 HB hHeld ⊢
    refine take_ (i := 0) (N := some 62) (v := ?_) (a' := ?_) #[true, false, false, false, false] rfl rfl (by kernel_rfl) (fun _ _ _ h => h) (Or.inl ⟨by rfl, ?_⟩) hHeld ?_ ?_
    rotate_left
    ·rintro w' ⟨s0, s1, s2, s3, s4, s5⟩
     go_simp
     with_reducible rfl
    rotate_left
    ·simp only [Act.put, List.setIfInBounds_toArray, List.set_cons_zero, List.set_cons_succ, i64_w, i32_w]
     rfl
    refine take_ (i := 1) (N := some 63) (v := ?_) (a' := ?_) #[true, true, false, false, false] rfl rfl (by kernel_rfl) (fun _ _ _ h => h) (Or.inl ⟨by rfl, ?_⟩) hHeld ?_ ?_
    rotate_left
    ·rintro w' ⟨s0, s1, s2, s3, s4, s5⟩
     go_simp
     with_reducible rfl
    rotate_left
    ·simp only [Act.put, List.setIfInBounds_toArray, List.set_cons_zero, List.set_cons_succ, i64_w, i32_w]
     rfl
    refine one_ (i := 2) (N := some 64) #[true, true, true, false, false] rfl rfl (by kernel_rfl) (by decide) (fun K hK => ?_)
    refine goes_ Try.func14 (by kernel_rfl) rfl #[.agg #[.int .i64 a0_0, .int .i64 a0_1, .slice A0_2 l0_2.length c0_2]] (by rfl) rfl rfl zt3 ?_
    with_reducible refine (laws_toBoard.calls kj22 a0_0 a0_1 _ _ l0_2 t476 t477 t478 _ ?side1 ?side2 A55.out).mono ?_
    (case side1 => exact zt12)
    (case side2 => exact HC0_2.out)
    rintro e w116 ⟨v479, rfl, ho0, hb⟩
    refine ⟨_, rfl, ?_⟩
    have n0_ := Aside0.mk (Kd.R_elder' zt9 (Kd.R_base ho0) hb)
    have n1_ := Aside0.mk (Kd.R_elder' zt11 (Kd.R_base ho0) hb)
    have n2_ := Aside0.mk (Kd.R_elder' zt8 (Kd.R_base ho0) hb)
    have n3_ := Aside0.mk (Kd.R_elder' zt7 (Kd.R_base ho0) hb)
    have n4_ := Aside0.mk (Kd.R_lower (Kd.R_new' (Kd.R_new' (Kd.R_new' (Kd.R_new' ho0 (Kd.R_lt zt9)) (Kd.R_lt zt11)) (Kd.R_lt zt8)) (Kd.R_lt zt7)) (below_size zt1))
    have n5_ := Aside0.mk (blk_below (g := gb443) (o := .cells #[.int .i64 a0_0, .int .i64 a0_1, .slice A0_2 l0_2.length c0_2] 24 (0, 0)) zt2 hb)
    have n6_ := Aside0.mk (blk_below (g := gb444) (o := .cells #[.int .i64 a1_0, .int .i64 a1_1] 26 (0, 0)) zt4 hb)
    have n7_ := Aside0.mk (blk_below (g := gb465) (o := .cells #[.int .i64 t460, .int .i64 t461, .slice Ao42 t462.length co42] 30 (0, 0)) zt6 hb)
    have n8_ := Aside0.mk (below_step zt1 hb)
    clear HO_10
    clear HO_13
    clear HO_14
    clear HO_466002
    clear BK443
    clear BK444
    clear BK465
    clear HB
    have HO_10 := n0_
    have HO_13 := n1_
    have HO_14 := n2_
    have HO_466002 := n3_
    have HO480 := n4_
    have BK443 := n5_
    have BK444 := n6_
    have BK465 := n7_
    have HB := n8_
    clear n0_ n1_ n2_ n3_ n4_ n5_ n6_ n7_ n8_
    (try clear hb)
    (try clear hb2)
    (try clear hk)
    (try clear hi)
    (try clear ho0)
    (try clear hna_)
    (try clear hnb_)
    obtain ⟨Ao117, co117, eo117⟩ := Kd.R_slice HO480.out
    (first | subst eo117 | (injection eo117 with f1_ f2_ f3_; have f4_ := f1_.symm; have f5_ := f3_.symm; clear f1_ f2_ f3_; subst f4_; subst f5_))
    refine hK.out _ _ ⟨(blk_cell BK465.out 0).trans rfl, (blk_cell BK465.out 1).trans rfl, (blk_cell BK465.out 2).trans rfl, (blk_cell BK443.out 0).trans rfl, (blk_cell BK443.out 1).trans rfl, (blk_cell BK443.out 2).trans rfl⟩ (fun hHeld => ?_)
    clear hK K
    refine norm_ (a' := ?_) ?_ ?_
    rotate_left
    ·show Act.put _ (some 64) _ = _
     simp only [Act.put, List.setIfInBounds_toArray, List.set_cons_zero, List.set_cons_succ, i64_w, i32_w]
     rfl
    refine one_ (i := 3) (N := some 65) #[true, true, true, true, false] rfl rfl (by kernel_rfl) (by decide) (fun K hK => ?_)
    refine goes_ Try.func19 (by kernel_rfl) rfl #[.agg #[.int .i64 t460, .int .i64 t461, .slice Ao42 t462.length co42], .agg #[.int .i64 t476, .int .i64 t477, .slice Ao117 t478.length co117]] (by rfl) rfl rfl zt3 ?_
    with_reducible refine (laws_eqBoard.calls kj22 t460 t461 _ _ t462 t476 t477 _ _ t478 true _ ?side1 ?side2 ?side3 ?side4 A56.out).mono ?_
    (case side1 => exact zt28)
    (case side2 => exact (Kd.R_reads' HO_466002.out).2.1)
    (case side3 => exact zt29)
    (case side4 => exact (Kd.R_reads' HO480.out).2.1)
    rintro e w118 ⟨rfl, hb⟩
    refine ⟨_, rfl, ?_⟩
    have n0_ := Aside0.mk (Kd.R_below zt9 hb)
    have n1_ := Aside0.mk (Kd.R_below zt11 hb)
    have n2_ := Aside0.mk (Kd.R_below zt8 hb)
    have n3_ := Aside0.mk (Kd.R_below zt7 hb)
    have n4_ := Aside0.mk (Kd.R_below zt18 hb)
    have n5_ := Aside0.mk (blk_below (g := gb443) (o := .cells #[.int .i64 a0_0, .int .i64 a0_1, .slice A0_2 l0_2.length c0_2] 24 (0, 0)) zt2 hb)
    have n6_ := Aside0.mk (blk_below (g := gb444) (o := .cells #[.int .i64 a1_0, .int .i64 a1_1] 26 (0, 0)) zt4 hb)
    have n7_ := Aside0.mk (blk_below (g := gb465) (o := .cells #[.int .i64 t460, .int .i64 t461, .slice Ao42 t462.length co42] 30 (0, 0)) zt6 hb)
    have n8_ := Aside0.mk (below_step zt1 hb)
    clear HO_10
    clear HO_13
    clear HO_14
    clear HO_466002
    clear HO480
    clear BK443
    clear BK444
    clear BK465
    clear HB
    have HO_10 := n0_
    have HO_13 := n1_
    have HO_14 := n2_
    have HO_466002 := n3_
    have HO480 := n4_
    have BK443 := n5_
    have BK444 := n6_
    have BK465 := n7_
    have HB := n8_
    clear n0_ n1_ n2_ n3_ n4_ n5_ n6_ n7_ n8_
    (try clear hb)
    (try clear hb2)
    (try clear hk)
    (try clear hi)
    (try clear hna_)
    (try clear hnb_)
    refine hK.out _ _ ⟨(blk_cell BK465.out 0).trans rfl, (blk_cell BK465.out 1).trans rfl, (blk_cell BK465.out 2).trans rfl, (blk_cell BK443.out 0).trans rfl, (blk_cell BK443.out 1).trans rfl, (blk_cell BK443.out 2).trans rfl⟩ (fun hHeld => ?_)
    clear hK K
    refine norm_ (a' := ?_) ?_ ?_
    rotate_left
    ·show Act.put _ (some 65) _ = _
     simp only [Act.put, List.setIfInBounds_toArray, List.set_cons_zero, List.set_cons_succ, i64_w, i32_w]
     rfl
    refine pure_ (i := 4) (N := some 66) (v := ?_) (a' := ?_) #[true, true, true, true, true] rfl rfl (by kernel_rfl) (fun _ _ _ h => h) (Or.inl ⟨by rfl, ?_⟩) ?_ ?_
    rotate_left
    ·intro w'
     go_simp
     with_reducible rfl
    rotate_left
    ·simp only [Act.put, List.setIfInBounds_toArray, List.set_cons_zero, List.set_cons_succ, i64_w, i32_w]
     rfl
    refine done_ (by kernel_rfl) ?_
    try go_wp2_with (first | ((with_reducible refine gate_callee (f := 16) rfl ?_); refine goesL_ (some 69) rfl rfl Try.func16 (by kernel_rfl) rfl #[.slice A2 l2.length c2] rfl zt3 ?_; (with_reducible refine (laws_toIntS.calls kj22 _ _ l2 t482 _ ?side1 ?side2 A58.out).mono ?_); (case side1 => exact zt21); (case side2 => exact HC2.out); rintro e w119 ⟨v483, rfl, ho0, hb⟩; refine ⟨_, rfl, ?_⟩; have n0_ := Aside0.mk (Kd.R_elder' zt9 (Kd.R_base ho0) hb); have n1_ := Aside0.mk (Kd.R_elder' zt11 (Kd.R_base ho0) hb); have n2_ := Aside0.mk (Kd.R_elder' zt8 (Kd.R_base ho0) hb); have n3_ := Aside0.mk (Kd.R_elder' zt7 (Kd.R_base ho0) hb); have n4_ := Aside0.mk (Kd.R_elder' zt18 (Kd.R_base ho0) hb); have n5_ := Aside0.mk (Kd.R_lower (Kd.R_new' (Kd.R_new' (Kd.R_new' (Kd.R_new' (Kd.R_new' ho0 (Kd.R_lt zt9)) (Kd.R_lt zt11)) (Kd.R_lt zt8)) (Kd.R_lt zt7)) (Kd.R_lt zt18)) (below_size zt1)); have n6_ := Aside0.mk (blk_below (g := gb443) (o := .cells #[.int .i64 a0_0, .int .i64 a0_1, .slice A0_2 l0_2.length c0_2] 24 (0, 0)) zt2 hb); have n7_ := Aside0.mk (blk_below (g := gb444) (o := .cells #[.int .i64 a1_0, .int .i64 a1_1] 26 (0, 0)) zt4 hb); have n8_ := Aside0.mk (blk_below (g := gb465) (o := .cells #[.int .i64 t460, .int .i64 t461, .slice Ao42 t462.length co42] 30 (0, 0)) zt6 hb); have n9_ := Aside0.mk (below_step zt1 hb); clear HO_10; clear HO_13; clear HO_14; clear HO_466002; clear HO480; clear BK443; clear BK444; clear BK465; clear HB; have HO_10 := n0_; have HO_13 := n1_; have HO_14 := n2_; have HO_466002 := n3_; have HO480 := n4_; have HO484 := n5_; have BK443 := n6_; have BK444 := n7_; have BK465 := n8_; have HB := n9_; clear n0_ n1_ n2_ n3_ n4_ n5_ n6_ n7_ n8_ n9_; (try clear hb); (try clear hb2); (try clear hk); (try clear hi); (try clear ho0); (try clear hna_); (try clear hnb_); obtain ⟨Ao120, co120, eo120⟩ := Kd.R_slice HO484.out; subst eo120) | ((with_reducible refine gate_callee (f := 18) rfl ?_); refine goesL_ (some 70) rfl rfl Try.func18 (by kernel_rfl) rfl #[.slice Ao46 t466.length co46, .slice Ao120 t482.length co120] rfl zt3 ?_; (with_reducible refine (laws_eqIntS.calls kj22 _ _ t466 _ _ t482 false _ ?side1 ?side2 ?side3 ?side4 A59.out).mono ?_); (case side1 => exact zt43); (case side2 => exact (Kd.R_reads' HO_13.out).2.1); (case side3 => exact zt45); (case side4 => exact (Kd.R_reads' HO484.out).2.1); rintro e w' ⟨rfl, ⟨nd, rfl⟩⟩; refine ⟨_, rfl, ?_⟩))
    go_ret
    exact ⟨zt16, zt1⟩
   subst c60
   have H1 : ((laws_markBoard.f kj22 t460 t461 t462 1).bind fun bt486 => ((laws_markIntS.f kj22 t466 bt486.1).bind fun bt488 => (if bt488.1 < 0 then (laws_FnExactTurnTail.j1 kj22 l2 a3 t456 t459 t471 true a0_0 a0_1 l0_2 a1_0 a1_1) else ((laws_eqIntS.f kj22 t471 t456).bind fun t490 => (if t490 = true then (laws_FnExactTurnTail.j1 kj22 l2 a3 t456 t459 t471 (t474 != t459) a0_0 a0_1 l0_2 a1_0 a1_1) else (laws_FnExactTurnTail.j1 kj22 l2 a3 t456 t459 t471 true a0_0 a0_1 l0_2 a1_0 a1_1)))))) = some r := by rw [if_pos rfl] at H; exact H
   clear H
   have H := H1
   clear H1
   replace H := Option.bind_eq_some_iff.mp H
   obtain ⟨⟨t486, t487⟩, A610, H⟩ := H
   replace H : ((laws_markIntS.f kj22 t466 t486).bind fun bt488 => (if bt488.1 < 0 then (laws_FnExactTurnTail.j1 kj22 l2 a3 t456 t459 t471 true a0_0 a0_1 l0_2 a1_0 a1_1) else ((laws_eqIntS.f kj22 t471 t456).bind fun t490 => (if t490 = true then (laws_FnExactTurnTail.j1 kj22 l2 a3 t456 t459 t471 (t474 != t459) a0_0 a0_1 l0_2 a1_0 a1_1) else (laws_FnExactTurnTail.j1 kj22 l2 a3 t456 t459 t471 true a0_0 a0_1 l0_2 a1_0 a1_1))))) = some r := H
   have A61 := Aside0.mk A610
   clear A610
   replace H := Option.bind_eq_some_iff.mp H
   obtain ⟨⟨t488, t489⟩, A620, H⟩ := H
   replace H : (if t488 < 0 then (laws_FnExactTurnTail.j1 kj22 l2 a3 t456 t459 t471 true a0_0 a0_1 l0_2 a1_0 a1_1) else ((laws_eqIntS.f kj22 t471 t456).bind fun t490 => (if t490 = true then (laws_FnExactTurnTail.j1 kj22 l2 a3 t456 t459 t471 (t474 != t459) a0_0 a0_1 l0_2 a1_0 a1_1) else (laws_FnExactTurnTail.j1 kj22 l2 a3 t456 t459 t471 true a0_0 a0_1 l0_2 a1_0 a1_1)))) = some r := H
   have A62 := Aside0.mk A620
   clear A620
   have HC63 := Aside0.mk H
   clear H
   try go_wp2
   have n0_ := Aside0.mk (Kd.R_drew HO_10.out)
   have n1_ := Aside0.mk (Kd.R_drew HO_13.out)
   have n2_ := Aside0.mk (Kd.R_drew HO_14.out)
   have n3_ := Aside0.mk (Kd.R_drew HO_466002.out)
   have n4_ := Aside0.mk (blk_drew BK443.out)
   have n5_ := Aside0.mk (blk_drew BK444.out)
   have n6_ := Aside0.mk (blk_drew BK465.out)
   have n7_ := Aside0.mk (below_drew1 HB.out)
   clear HO_10
   clear HO_13
   clear HO_14
   clear HO_466002
   clear BK443
   clear BK444
   clear BK465
   clear HB
   have HO_10 := n0_
   have HO_13 := n1_
   have HO_14 := n2_
   have HO_466002 := n3_
   have BK443 := n4_
   have BK444 := n5_
   have BK465 := n6_
   have HB := n7_
   clear n0_ n1_ n2_ n3_ n4_ n5_ n6_ n7_
   refine start_ (n := 5) (S := fun w' => w'.cell? ⟨gb465, 0, none⟩ = some (.int .i64 t460) ∧ w'.cell? ⟨gb465, 1, none⟩ = some (.int .i64 t461) ∧ w'.cell? ⟨gb465, 2, none⟩ = some (.slice Ao42 t462.length co42) ∧ w'.cell? ⟨gb443, 0, none⟩ = some (.int .i64 a0_0) ∧ w'.cell? ⟨gb443, 1, none⟩ = some (.int .i64 a0_1) ∧ w'.cell? ⟨gb443, 2, none⟩ = some (.slice A0_2 l0_2.length c0_2)) (ds := []) #[false, false, false, false, false] (by kernel_rfl) rfl rfl ⟨(blk_cell BK465.out 0).trans rfl, (blk_cell BK465.out 1).trans rfl, (blk_cell BK465.out 2).trans rfl, (blk_cell BK443.out 0).trans rfl, (blk_cell BK443.out 1).trans rfl, (blk_cell BK443.out 2).trans rfl⟩ (fun hHeld => ?_)
   generalize wc.drew = w64 at HO_10 HO_13 HO_14 HO_466002 BK443 BK444 BK465 HB hHeld ⊢
   refine take_ (i := 0) (N := some 62) (v := ?_) (a' := ?_) #[true, false, false, false, false] rfl rfl (by kernel_rfl) (fun _ _ _ h => h) (Or.inl ⟨by rfl, ?_⟩) hHeld ?_ ?_
   rotate_left
   ·rintro w' ⟨s0, s1, s2, s3, s4, s5⟩
    go_simp
    with_reducible rfl
   rotate_left
   ·simp only [Act.put, List.setIfInBounds_toArray, List.set_cons_zero, List.set_cons_succ, i64_w, i32_w]
    rfl
   refine take_ (i := 1) (N := some 63) (v := ?_) (a' := ?_) #[true, true, false, false, false] rfl rfl (by kernel_rfl) (fun _ _ _ h => h) (Or.inl ⟨by rfl, ?_⟩) hHeld ?_ ?_
   rotate_left
   ·rintro w' ⟨s0, s1, s2, s3, s4, s5⟩
    go_simp
    with_reducible rfl
   rotate_left
   ·simp only [Act.put, List.setIfInBounds_toArray, List.set_cons_zero, List.set_cons_succ, i64_w, i32_w]
    rfl
   refine one_ (i := 2) (N := some 64) #[true, true, true, false, false] rfl rfl (by kernel_rfl) (by decide) (fun K hK => ?_)
   refine goes_ Try.func14 (by kernel_rfl) rfl #[.agg #[.int .i64 a0_0, .int .i64 a0_1, .slice A0_2 l0_2.length c0_2]] (by rfl) rfl rfl zt3 ?_
   with_reducible refine (laws_toBoard.calls kj22 a0_0 a0_1 _ _ l0_2 t476 t477 t478 _ ?side1 ?side2 A55.out).mono ?_
   (case side1 => exact zt12)
   (case side2 => exact HC0_2.out)
   rintro e w65 ⟨v479, rfl, ho0, hb⟩
   refine ⟨_, rfl, ?_⟩
   have n0_ := Aside0.mk (Kd.R_elder' zt9 (Kd.R_base ho0) hb)
   have n1_ := Aside0.mk (Kd.R_elder' zt11 (Kd.R_base ho0) hb)
   have n2_ := Aside0.mk (Kd.R_elder' zt8 (Kd.R_base ho0) hb)
   have n3_ := Aside0.mk (Kd.R_elder' zt7 (Kd.R_base ho0) hb)
   have n4_ := Aside0.mk (Kd.R_lower (Kd.R_new' (Kd.R_new' (Kd.R_new' (Kd.R_new' ho0 (Kd.R_lt zt9)) (Kd.R_lt zt11)) (Kd.R_lt zt8)) (Kd.R_lt zt7)) (below_size zt1))
   have n5_ := Aside0.mk (blk_below (g := gb443) (o := .cells #[.int .i64 a0_0, .int .i64 a0_1, .slice A0_2 l0_2.length c0_2] 24 (0, 0)) zt2 hb)
   have n6_ := Aside0.mk (blk_below (g := gb444) (o := .cells #[.int .i64 a1_0, .int .i64 a1_1] 26 (0, 0)) zt4 hb)
   have n7_ := Aside0.mk (blk_below (g := gb465) (o := .cells #[.int .i64 t460, .int .i64 t461, .slice Ao42 t462.length co42] 30 (0, 0)) zt6 hb)
   have n8_ := Aside0.mk (below_step zt1 hb)
   clear HO_10
   clear HO_13
   clear HO_14
   clear HO_466002
   clear BK443
   clear BK444
   clear BK465
   clear HB
   have HO_10 := n0_
   have HO_13 := n1_
   have HO_14 := n2_
   have HO_466002 := n3_
   have HO480 := n4_
   have BK443 := n5_
   have BK444 := n6_
   have BK465 := n7_
   have HB := n8_
   clear n0_ n1_ n2_ n3_ n4_ n5_ n6_ n7_ n8_
   (try clear hb)
   (try clear hb2)
   (try clear hk)
   (try clear hi)
   (try clear ho0)
   (try clear hna_)
   (try clear hnb_)
   obtain ⟨Ao66, co66, eo66⟩ := Kd.R_slice HO480.out
   (first | subst eo66 | (injection eo66 with f1_ f2_ f3_; have f4_ := f1_.symm; have f5_ := f3_.symm; clear f1_ f2_ f3_; subst f4_; subst f5_))
   refine hK.out _ _ ⟨(blk_cell BK465.out 0).trans rfl, (blk_cell BK465.out 1).trans rfl, (blk_cell BK465.out 2).trans rfl, (blk_cell BK443.out 0).trans rfl, (blk_cell BK443.out 1).trans rfl, (blk_cell BK443.out 2).trans rfl⟩ (fun hHeld => ?_)
   clear hK K
   refine norm_ (a' := ?_) ?_ ?_
   rotate_left
   ·show Act.put _ (some 64) _ = _
    simp only [Act.put, List.setIfInBounds_toArray, List.set_cons_zero, List.set_cons_succ, i64_w, i32_w]
    rfl
   refine one_ (i := 3) (N := some 65) #[true, true, true, true, false] rfl rfl (by kernel_rfl) (by decide) (fun K hK => ?_)
   refine goes_ Try.func19 (by kernel_rfl) rfl #[.agg #[.int .i64 t460, .int .i64 t461, .slice Ao42 t462.length co42], .agg #[.int .i64 t476, .int .i64 t477, .slice Ao66 t478.length co66]] (by rfl) rfl rfl zt3 ?_
   with_reducible refine (laws_eqBoard.calls kj22 t460 t461 _ _ t462 t476 t477 _ _ t478 true _ ?side1 ?side2 ?side3 ?side4 A56.out).mono ?_
   (case side1 => exact zt28)
   (case side2 => exact (Kd.R_reads' HO_466002.out).2.1)
   (case side3 => exact zt29)
   (case side4 => exact (Kd.R_reads' HO480.out).2.1)
   rintro e w67 ⟨rfl, hb⟩
   refine ⟨_, rfl, ?_⟩
   have n0_ := Aside0.mk (Kd.R_below zt9 hb)
   have n1_ := Aside0.mk (Kd.R_below zt11 hb)
   have n2_ := Aside0.mk (Kd.R_below zt8 hb)
   have n3_ := Aside0.mk (Kd.R_below zt7 hb)
   have n4_ := Aside0.mk (Kd.R_below zt18 hb)
   have n5_ := Aside0.mk (blk_below (g := gb443) (o := .cells #[.int .i64 a0_0, .int .i64 a0_1, .slice A0_2 l0_2.length c0_2] 24 (0, 0)) zt2 hb)
   have n6_ := Aside0.mk (blk_below (g := gb444) (o := .cells #[.int .i64 a1_0, .int .i64 a1_1] 26 (0, 0)) zt4 hb)
   have n7_ := Aside0.mk (blk_below (g := gb465) (o := .cells #[.int .i64 t460, .int .i64 t461, .slice Ao42 t462.length co42] 30 (0, 0)) zt6 hb)
   have n8_ := Aside0.mk (below_step zt1 hb)
   clear HO_10
   clear HO_13
   clear HO_14
   clear HO_466002
   clear HO480
   clear BK443
   clear BK444
   clear BK465
   clear HB
   have HO_10 := n0_
   have HO_13 := n1_
   have HO_14 := n2_
   have HO_466002 := n3_
   have HO480 := n4_
   have BK443 := n5_
   have BK444 := n6_
   have BK465 := n7_
   have HB := n8_
   clear n0_ n1_ n2_ n3_ n4_ n5_ n6_ n7_ n8_
   (try clear hb)
   (try clear hb2)
   (try clear hk)
   (try clear hi)
   (try clear hna_)
   (try clear hnb_)
   refine hK.out _ _ ⟨(blk_cell BK465.out 0).trans rfl, (blk_cell BK465.out 1).trans rfl, (blk_cell BK465.out 2).trans rfl, (blk_cell BK443.out 0).trans rfl, (blk_cell BK443.out 1).trans rfl, (blk_cell BK443.out 2).trans rfl⟩ (fun hHeld => ?_)
   clear hK K
   refine norm_ (a' := ?_) ?_ ?_
   rotate_left
   ·show Act.put _ (some 65) _ = _
    simp only [Act.put, List.setIfInBounds_toArray, List.set_cons_zero, List.set_cons_succ, i64_w, i32_w]
    rfl
   refine pure_ (i := 4) (N := some 66) (v := ?_) (a' := ?_) #[true, true, true, true, true] rfl rfl (by kernel_rfl) (fun _ _ _ h => h) (Or.inl ⟨by rfl, ?_⟩) ?_ ?_
   rotate_left
   ·intro w'
    go_simp
    with_reducible rfl
   rotate_left
   ·simp only [Act.put, List.setIfInBounds_toArray, List.set_cons_zero, List.set_cons_succ, i64_w, i32_w]
    rfl
   refine done_ (by kernel_rfl) ?_
   go_upto_region 20 with (first | ((with_reducible refine gate_callee (f := 16) rfl ?_); refine goesL_ (some 69) rfl rfl Try.func16 (by kernel_rfl) rfl #[.slice A2 l2.length c2] rfl zt3 ?_; (with_reducible refine (laws_toIntS.calls kj22 _ _ l2 t482 _ ?side1 ?side2 A58.out).mono ?_); (case side1 => exact zt21); (case side2 => exact HC2.out); rintro e w68 ⟨v483, rfl, ho0, hb⟩; refine ⟨_, rfl, ?_⟩; have n0_ := Aside0.mk (Kd.R_elder' zt9 (Kd.R_base ho0) hb); have n1_ := Aside0.mk (Kd.R_elder' zt11 (Kd.R_base ho0) hb); have n2_ := Aside0.mk (Kd.R_elder' zt8 (Kd.R_base ho0) hb); have n3_ := Aside0.mk (Kd.R_elder' zt7 (Kd.R_base ho0) hb); have n4_ := Aside0.mk (Kd.R_elder' zt18 (Kd.R_base ho0) hb); have n5_ := Aside0.mk (Kd.R_lower (Kd.R_new' (Kd.R_new' (Kd.R_new' (Kd.R_new' (Kd.R_new' ho0 (Kd.R_lt zt9)) (Kd.R_lt zt11)) (Kd.R_lt zt8)) (Kd.R_lt zt7)) (Kd.R_lt zt18)) (below_size zt1)); have n6_ := Aside0.mk (blk_below (g := gb443) (o := .cells #[.int .i64 a0_0, .int .i64 a0_1, .slice A0_2 l0_2.length c0_2] 24 (0, 0)) zt2 hb); have n7_ := Aside0.mk (blk_below (g := gb444) (o := .cells #[.int .i64 a1_0, .int .i64 a1_1] 26 (0, 0)) zt4 hb); have n8_ := Aside0.mk (blk_below (g := gb465) (o := .cells #[.int .i64 t460, .int .i64 t461, .slice Ao42 t462.length co42] 30 (0, 0)) zt6 hb); have n9_ := Aside0.mk (below_step zt1 hb); clear HO_10; clear HO_13; clear HO_14; clear HO_466002; clear HO480; clear BK443; clear BK444; clear BK465; clear HB; have HO_10 := n0_; have HO_13 := n1_; have HO_14 := n2_; have HO_466002 := n3_; have HO480 := n4_; have HO484 := n5_; have BK443 := n6_; have BK444 := n7_; have BK465 := n8_; have HB := n9_; clear n0_ n1_ n2_ n3_ n4_ n5_ n6_ n7_ n8_ n9_; (try clear hb); (try clear hb2); (try clear hk); (try clear hi); (try clear ho0); (try clear hna_); (try clear hnb_); obtain ⟨Ao69, co69, eo69⟩ := Kd.R_slice HO484.out; subst eo69) | ((with_reducible refine gate_callee (f := 18) rfl ?_); refine goesL_ (some 70) rfl rfl Try.func18 (by kernel_rfl) rfl #[.slice Ao46 t466.length co46, .slice Ao69 t482.length co69] rfl zt3 ?_; (with_reducible refine (laws_eqIntS.calls kj22 _ _ t466 _ _ t482 true _ ?side1 ?side2 ?side3 ?side4 A59.out).mono ?_); (case side1 => exact zt43); (case side2 => exact (Kd.R_reads' HO_13.out).2.1); (case side3 => exact zt45); (case side4 => exact (Kd.R_reads' HO484.out).2.1); rintro e w' ⟨rfl, ⟨nd, rfl⟩⟩; refine ⟨_, rfl, ?_⟩; have hnb70 := NB465_443.out; have hnc70 := NB443_465.out; have hnb71 := NB465_444.out; have hnc71 := NB444_465.out; have hcz72_0 : w68.cell? ⟨gb465, 0, none⟩ = some (.int .i64 t460) := (blk_cell BK465.out 0).trans rfl; have hcz72_1 : w68.cell? ⟨gb465, 1, none⟩ = some (.int .i64 t461) := (blk_cell BK465.out 1).trans rfl; have hcz72_2 : w68.cell? ⟨gb465, 2, none⟩ = some (.slice Ao42 t462.length co42) := (blk_cell BK465.out 2).trans rfl; have hfz72_0 := blk_frozen BK465.out 0; have hfz72_1 := blk_frozen BK465.out 1; have hfz72_2 := blk_frozen BK465.out 2) | ((with_reducible refine gate_callee (f := 20) rfl ?_); refine goesL_ (some 74) rfl rfl Try.func20 (by kernel_rfl) rfl #[.agg #[.int .i64 t460, .int .i64 t461, .slice Ao42 t462.length co42], .int .i64 1] rfl zt3 ?_; (with_reducible refine (laws_markBoard.calls kj22 t460 t461 (fun k_ => some k_ = (.slice Ao42 t462.length co42 : Value).ownBlock) (.slice Ao42 t462.length co42) t462 1 t486 t487 w _ ?side1 ?side2 A61.out).mono ?_); (case side1 => exact zt1); (case side2 => exact Kd.R_tight rfl HO_466002.out); rintro e w73 ⟨rfl, hy0, hb, hkp⟩; refine ⟨_, rfl, ?_⟩; have n0_ := Aside0.mk (Kd.R_mono (ok' := fun k_ => some k_ ≠ (.slice Ao46 t466.length co46 : Value).ownBlock ∧ some k_ ≠ (v472 : Value).ownBlock ∧ some k_ ≠ (.slice Ao42 t462.length co42 : Value).ownBlock ∧ some k_ ≠ (.slice Ao66 t478.length co66 : Value).ownBlock ∧ some k_ ≠ (.slice Ao69 t482.length co69 : Value).ownBlock) (Kd.R_keptB (HO_10.out) hkp (fun k_ hk_ hs_ => (hk_.1.1.2.2) hs_)) (fun k_ hk_ => ⟨hk_.1.1.1.1, hk_.1.1.1.2.1, hk_.1.1.1.2.2, hk_.1.1.2, hk_.1.2⟩)); have n1_ := Aside0.mk (Kd.R_mono (ok' := fun k_ => some k_ ≠ (v457 : Value).ownBlock ∧ some k_ ≠ (v472 : Value).ownBlock ∧ some k_ ≠ (.slice Ao42 t462.length co42 : Value).ownBlock ∧ some k_ ≠ (.slice Ao66 t478.length co66 : Value).ownBlock ∧ some k_ ≠ (.slice Ao69 t482.length co69 : Value).ownBlock) (Kd.R_keptB (HO_13.out) hkp (fun k_ hk_ hs_ => (hk_.1.1.2.2) hs_)) (fun k_ hk_ => ⟨hk_.1.1.1.1, hk_.1.1.1.2.1, hk_.1.1.1.2.2, hk_.1.1.2, hk_.1.2⟩)); have n2_ := Aside0.mk (Kd.R_mono (ok' := fun k_ => some k_ ≠ (v457 : Value).ownBlock ∧ some k_ ≠ (.slice Ao46 t466.length co46 : Value).ownBlock ∧ some k_ ≠ (.slice Ao42 t462.length co42 : Value).ownBlock ∧ some k_ ≠ (.slice Ao66 t478.length co66 : Value).ownBlock ∧ some k_ ≠ (.slice Ao69 t482.length co69 : Value).ownBlock) (Kd.R_keptB (HO_14.out) hkp (fun k_ hk_ hs_ => (hk_.1.1.2.2) hs_)) (fun k_ hk_ => ⟨hk_.1.1.1.1, hk_.1.1.1.2.1, hk_.1.1.1.2.2, hk_.1.1.2, hk_.1.2⟩)); have n3_ := Aside0.mk (Kd.R_reok rfl hy0 (fun k_ e_ => HO_466002.out.1 k_ e_)); have n4_ := Aside0.mk (blk_kept zt2 hkp (fun hs_ => (fun e_ => (Kd.R_ne HO_466002.out BK443.out (by decide)) e_) hs_)); have n5_ := Aside0.mk (blk_kept zt4 hkp (fun hs_ => (fun e_ => (Kd.R_ne HO_466002.out BK444.out (by decide)) e_) hs_)); have n6_ := Aside0.mk (blk_kept zt6 hkp (fun hs_ => (fun e_ => (Kd.R_ne HO_466002.out BK465.out (by decide)) e_) hs_)); have n7_ := Aside0.mk (Kd.R_mono (ok' := fun k_ => some k_ ≠ (v457 : Value).ownBlock ∧ some k_ ≠ (.slice Ao46 t466.length co46 : Value).ownBlock ∧ some k_ ≠ (v472 : Value).ownBlock ∧ some k_ ≠ (.slice Ao42 t462.length co42 : Value).ownBlock ∧ some k_ ≠ (.slice Ao69 t482.length co69 : Value).ownBlock) (Kd.R_keptB (HO480.out) hkp (fun k_ hk_ hs_ => (hk_.1.2) hs_)) (fun k_ hk_ => ⟨hk_.1.1.1.1.1.2, hk_.1.1.1.1.2, hk_.1.1.1.2, hk_.1.1.2, hk_.1.2⟩)); have n8_ := Aside0.mk (Kd.R_mono (ok' := fun k_ => some k_ ≠ (v457 : Value).ownBlock ∧ some k_ ≠ (.slice Ao46 t466.length co46 : Value).ownBlock ∧ some k_ ≠ (v472 : Value).ownBlock ∧ some k_ ≠ (.slice Ao42 t462.length co42 : Value).ownBlock ∧ some k_ ≠ (.slice Ao66 t478.length co66 : Value).ownBlock) (Kd.R_keptB (HO484.out) hkp (fun k_ hk_ hs_ => (hk_.1.2) hs_)) (fun k_ hk_ => ⟨hk_.1.1.1.1.1.2, hk_.1.1.1.1.2, hk_.1.1.1.2, hk_.1.1.2, hk_.1.2⟩)); have n9_ := Aside0.mk (hb); clear HO_10; clear HO_13; clear HO_14; clear HO_466002; clear BK443; clear BK444; clear BK465; clear HO480; clear HO484; clear HB; have HO_10 := n0_; have HO_13 := n1_; have HO_14 := n2_; have HO_466002 := n3_; have BK443 := n4_; have BK444 := n5_; have BK465 := n6_; have HO480 := n7_; have HO484 := n8_; have HB := n9_; clear n0_ n1_ n2_ n3_ n4_ n5_ n6_ n7_ n8_ n9_; (try clear hb); (try clear hkp); (try clear hy0)) | ((with_reducible refine gate_callee (f := 21) rfl ?_); refine goesL_ (some 77) rfl rfl Try.func21 (by kernel_rfl) rfl #[.slice Ao46 t466.length co46, .int .i64 t486] rfl zt3 ?_; (with_reducible refine (laws_markIntS.calls kj22 (fun k_ => some k_ = (.slice Ao46 t466.length co46 : Value).ownBlock) (.slice Ao46 t466.length co46) t466 t486 t488 t489 w _ ?side1 ?side2 A62.out).mono ?_); (case side1 => exact zt1); (case side2 => exact Kd.R_tight rfl HO_13.out); rintro e w74 ⟨rfl, hy0, hb, hkp⟩; refine ⟨_, rfl, ?_⟩; have n0_ := Aside0.mk (Kd.R_mono (ok' := fun k_ => some k_ ≠ (.slice Ao46 t466.length co46 : Value).ownBlock ∧ some k_ ≠ (v472 : Value).ownBlock ∧ some k_ ≠ (.slice Ao42 t462.length co42 : Value).ownBlock ∧ some k_ ≠ (.slice Ao66 t478.length co66 : Value).ownBlock ∧ some k_ ≠ (.slice Ao69 t482.length co69 : Value).ownBlock) (Kd.R_keptB (HO_10.out) hkp (fun k_ hk_ hs_ => (hk_.1) hs_)) (fun k_ hk_ => ⟨hk_.1.1, hk_.1.2.1, hk_.1.2.2.1, hk_.1.2.2.2.1, hk_.1.2.2.2.2⟩)); have n1_ := Aside0.mk (Kd.R_reok rfl hy0 (fun k_ e_ => HO_13.out.1 k_ e_)); have n2_ := Aside0.mk (Kd.R_mono (ok' := fun k_ => some k_ ≠ (v457 : Value).ownBlock ∧ some k_ ≠ (.slice Ao46 t466.length co46 : Value).ownBlock ∧ some k_ ≠ (.slice Ao42 t462.length co42 : Value).ownBlock ∧ some k_ ≠ (.slice Ao66 t478.length co66 : Value).ownBlock ∧ some k_ ≠ (.slice Ao69 t482.length co69 : Value).ownBlock) (Kd.R_keptB (HO_14.out) hkp (fun k_ hk_ hs_ => (hk_.2.1) hs_)) (fun k_ hk_ => ⟨hk_.1.1, hk_.1.2.1, hk_.1.2.2.1, hk_.1.2.2.2.1, hk_.1.2.2.2.2⟩)); have n3_ := Aside0.mk (Kd.R_mono (ok' := fun k_ => some k_ ≠ (v457 : Value).ownBlock ∧ some k_ ≠ (.slice Ao46 t466.length co46 : Value).ownBlock ∧ some k_ ≠ (v472 : Value).ownBlock ∧ some k_ ≠ (.slice Ao66 t478.length co66 : Value).ownBlock ∧ some k_ ≠ (.slice Ao69 t482.length co69 : Value).ownBlock) (Kd.R_keptB (HO_466002.out) hkp (fun k_ hk_ hs_ => (hk_.1.1.2.1) hs_)) (fun k_ hk_ => ⟨hk_.1.1.1.1, hk_.1.1.1.2.1, hk_.1.1.1.2.2, hk_.1.1.2, hk_.1.2⟩)); have n4_ := Aside0.mk (blk_kept zt2 hkp (fun hs_ => (fun e_ => (Kd.R_ne HO_13.out BK443.out (by decide)) e_) hs_)); have n5_ := Aside0.mk (blk_kept zt4 hkp (fun hs_ => (fun e_ => (Kd.R_ne HO_13.out BK444.out (by decide)) e_) hs_)); have n6_ := Aside0.mk (blk_kept zt6 hkp (fun hs_ => (fun e_ => (Kd.R_ne HO_13.out BK465.out (by decide)) e_) hs_)); have n7_ := Aside0.mk (Kd.R_mono (ok' := fun k_ => some k_ ≠ (v457 : Value).ownBlock ∧ some k_ ≠ (.slice Ao46 t466.length co46 : Value).ownBlock ∧ some k_ ≠ (v472 : Value).ownBlock ∧ some k_ ≠ (.slice Ao42 t462.length co42 : Value).ownBlock ∧ some k_ ≠ (.slice Ao69 t482.length co69 : Value).ownBlock) (Kd.R_keptB (HO480.out) hkp (fun k_ hk_ hs_ => (hk_.2.1) hs_)) (fun k_ hk_ => ⟨hk_.1.1, hk_.1.2.1, hk_.1.2.2.1, hk_.1.2.2.2.1, hk_.1.2.2.2.2⟩)); have n8_ := Aside0.mk (Kd.R_mono (ok' := fun k_ => some k_ ≠ (v457 : Value).ownBlock ∧ some k_ ≠ (.slice Ao46 t466.length co46 : Value).ownBlock ∧ some k_ ≠ (v472 : Value).ownBlock ∧ some k_ ≠ (.slice Ao42 t462.length co42 : Value).ownBlock ∧ some k_ ≠ (.slice Ao66 t478.length co66 : Value).ownBlock) (Kd.R_keptB (HO484.out) hkp (fun k_ hk_ hs_ => (hk_.2.1) hs_)) (fun k_ hk_ => ⟨hk_.1.1, hk_.1.2.1, hk_.1.2.2.1, hk_.1.2.2.2.1, hk_.1.2.2.2.2⟩)); have n9_ := Aside0.mk (hb); clear HO_10; clear HO_13; clear HO_14; clear HO_466002; clear BK443; clear BK444; clear BK465; clear HO480; clear HO484; clear HB; have HO_10 := n0_; have HO_13 := n1_; have HO_14 := n2_; have HO_466002 := n3_; have BK443 := n4_; have BK444 := n5_; have BK465 := n6_; have HO480 := n7_; have HO484 := n8_; have HB := n9_; clear n0_ n1_ n2_ n3_ n4_ n5_ n6_ n7_ n8_ n9_; (try clear hb); (try clear hkp); (try clear hy0)))
   (try simp only [Act.put, List.setIfInBounds_toArray, List.set_cons_zero, List.set_cons_succ])
   go_cut [90] (fun v90 wc => ∃ (kq : Nat) (x90_62 : Bool), v90 = .bool x90_62 ∧ Aside0 (laws_FnExactTurnTail.j1 kq l2 a3 t456 t459 t471 x90_62 a0_0 a0_1 l0_2 a1_0 a1_1 = some r) ∧ Aside0 (kq ≤ kj22) ∧ Aside0 (Kd.R (Kd.int .i64) 3 wc w.heap.size (fun k_ => some k_ ≠ (v472 : Value).ownBlock ∧ some k_ ≠ ((.slice Ao42 t462.length co42) : Value).ownBlock) v457 t456) ∧ Aside0 (Kd.R (Kd.int .i64) 3 wc w.heap.size (fun k_ => some k_ ≠ (v457 : Value).ownBlock ∧ some k_ ≠ ((.slice Ao42 t462.length co42) : Value).ownBlock) v472 t471) ∧ Aside0 (Kd.R (Kd.int .i64) 3 wc w.heap.size (fun k_ => some k_ ≠ (v457 : Value).ownBlock ∧ some k_ ≠ (v472 : Value).ownBlock) (.slice Ao42 t462.length co42) t487) ∧ Aside0 (wc.heap[gb443]? = some (.cells #[.int .i64 a0_0, .int .i64 a0_1, (.slice A0_2 l0_2.length c0_2)] 24 (0, 0))) ∧ Aside0 (wc.heap[gb444]? = some (.cells #[.int .i64 a1_0, .int .i64 a1_1] 26 (0, 0))) ∧ Aside0 (wc.heap[gb465]? = some (.cells #[.int .i64 t460, .int .i64 t461, (.slice Ao42 t462.length co42)] 30 (0, 0))) ∧ Aside0 (Below w.heap.size w wc))
   case first =>
    have H := HC63.out
    clear HC63
    by_cases c75 : t488 < 0
    ·rw [if_pos c75] at H
     have c75b0 : decide (t488 < 0) = true := decide_eq_true c75
     clear c75
     (first | rw [c75b0] | (simp only [i64_w, i32_w]; rw [c75b0]) | skip)
     have H' := Aside0.mk H
     clear H
     go_wp2
     go_meet
     case rel => exact ⟨_, (true), zt34, H', ⟨by have := HJ22.out; first | omega | exact Nat.le_refl _⟩, ⟨zt32⟩, ⟨zt33⟩, ⟨zt31⟩, ⟨zt2⟩, ⟨zt4⟩, ⟨zt6⟩, ⟨zt1⟩⟩
    rw [if_neg c75] at H
    have c75b0 : decide (t488 < 0) = false := decide_eq_false c75
    clear c75
    (first | rw [c75b0] | (simp only [i64_w, i32_w]; rw [c75b0]) | skip)
    replace H := Option.bind_eq_some_iff.mp H
    obtain ⟨t490, A760, H⟩ := H
    replace H : (if t490 = true then (laws_FnExactTurnTail.j1 kj22 l2 a3 t456 t459 t471 (t474 != t459) a0_0 a0_1 l0_2 a1_0 a1_1) else (laws_FnExactTurnTail.j1 kj22 l2 a3 t456 t459 t471 true a0_0 a0_1 l0_2 a1_0 a1_1)) = some r := H
    have A76 := Aside0.mk A760
    clear A760
    by_cases c77 : t490 = true
    ·subst c77
     have H1 : (laws_FnExactTurnTail.j1 kj22 l2 a3 t456 t459 t471 (t474 != t459) a0_0 a0_1 l0_2 a1_0 a1_1) = some r := by rw [if_pos rfl] at H; exact H
     clear H
     have H := H1
     clear H1
     have H' := Aside0.mk H
     clear H
     obtain ⟨Ao78, co78, eo78⟩ := Kd.R_slice HO_14.out
     subst eo78
     obtain ⟨Ao79, co79, eo79⟩ := Kd.R_slice HO_10.out
     subst eo79
     go_wp2_with (first | (go_at_call 18; (with_reducible refine (laws_eqIntS.calls kj22 _ _ t471 _ _ t456 true _ ?side1 ?side2 ?side3 ?side4 A76.out).mono ?_); (case side1 => exact zt13); (case side2 => exact (Kd.R_reads' HO_14.out).2.1); (case side3 => exact zt20); (case side4 => exact (Kd.R_reads' HO_10.out).2.1); rintro e w' ⟨rfl, ⟨nd, rfl⟩⟩))
     go_meet
     case rel => exact ⟨_, ((t474 != t459)), zt34, H', ⟨by have := HJ22.out; first | omega | exact Nat.le_refl _⟩, ⟨zt32⟩, ⟨zt33⟩, ⟨zt31⟩, ⟨zt2⟩, ⟨zt4⟩, ⟨zt6⟩, ⟨zt1⟩⟩
    replace c77 := Bool.eq_false_iff.mpr c77
    subst c77
    have H1 : (laws_FnExactTurnTail.j1 kj22 l2 a3 t456 t459 t471 true a0_0 a0_1 l0_2 a1_0 a1_1) = some r := by rw [if_neg (show ¬ (false = true) by decide)] at H; exact H
    clear H
    have H := H1
    clear H1
    have H' := Aside0.mk H
    clear H
    obtain ⟨Ao80, co80, eo80⟩ := Kd.R_slice HO_14.out
    subst eo80
    obtain ⟨Ao81, co81, eo81⟩ := Kd.R_slice HO_10.out
    subst eo81
    go_wp2_with (first | (go_at_call 18; (with_reducible refine (laws_eqIntS.calls kj22 _ _ t471 _ _ t456 false _ ?side1 ?side2 ?side3 ?side4 A76.out).mono ?_); (case side1 => exact zt13); (case side2 => exact (Kd.R_reads' HO_14.out).2.1); (case side3 => exact zt20); (case side4 => exact (Kd.R_reads' HO_10.out).2.1); rintro e w' ⟨rfl, ⟨nd, rfl⟩⟩))
    go_meet
    case rel => exact ⟨_, (true), zt34, H', ⟨by have := HJ22.out; first | omega | exact Nat.le_refl _⟩, ⟨zt32⟩, ⟨zt33⟩, ⟨zt31⟩, ⟨zt2⟩, ⟨zt4⟩, ⟨zt6⟩, ⟨zt1⟩⟩
   case rest =>
    clear HC63
    try clear c1; try clear c2; try clear p2; try clear c3; try clear c4; try clear c5; try clear c5b0; try clear c5b1; try clear c6; try clear c7; try clear c9; try clear c9b0; try clear c12; try clear c14; try clear c15; try clear c16; try clear c18; try clear c19; try clear c20; try clear c21; try clear c23; try clear c24; try clear c26; try clear c39; try clear c40; try clear c49; try clear c54; try clear c57; try clear c60; try clear c70; try clear c71; try clear c75; try clear c75b0; try clear c77; try clear hcz13_0; try clear hcz13_1; try clear hcz13_2; try clear hcz27_0; try clear hcz27_1; try clear hcz27_2
    try clear hcz36_0; try clear hcz36_1; try clear hcz36_2; try clear hcz41_0; try clear hcz41_1; try clear hcz41_2; try clear hcz72_0; try clear hcz72_1; try clear hcz72_2; try clear hfz13_0; try clear hfz13_1; try clear hfz13_2; try clear hfz27_0; try clear hfz27_1; try clear hfz27_2; try clear hfz36_0; try clear hfz36_1; try clear hfz36_2; try clear hfz41_0; try clear hfz41_1; try clear hfz41_2; try clear hfz72_0; try clear hfz72_1; try clear hfz72_2; try clear p2
    obtain ⟨kq, x90_62, rfl, HA, HJ62, HO_10, HO_14, HO_466002, BK443, BK444, BK465, HB⟩ := hcut
    have hl466002_62 := (Kd.R_reads' HO_466002.out).1
    rw [hl466002_62] at HO_466002
    (try simp only [hl466002_62])
    (try simp only [hl466002_62] at BK443)
    (try simp only [hl466002_62] at BK444)
    (try simp only [hl466002_62] at BK465)
    (try simp only [hl466002_62] at HO_10)
    (try simp only [hl466002_62] at HO_14)
    cases kq with
    | zero => exact absurd HA.out (by simp [laws_FnExactTurnTail.j1])
    | succ kj62 =>
     have H := HA.out
     clear HA
     simp only [laws_FnExactTurnTail.j1] at H
     by_cases c82 : x90_62 = true
     ·subst c82
      have H1 : (some false) = some r := by rw [if_pos rfl] at H; exact H
      clear H
      have H := H1
      clear H1
      obtain rfl := Option.some.inj H
      go_wp2
      go_ret
      exact ⟨zt16, zt1⟩
     replace c82 := Bool.eq_false_iff.mpr c82
     subst c82
     have H1 : ((laws_markIntS.f kj62 t471 1).bind fun bt491 => ((laws_heldIntS.f kj62 bt491.2 1).bind fun t493 => (if t493 < 0 then (some false) else (if t493 = bt491.1 then ((laws_toBoard.f kj62 a0_0 a0_1 l0_2).bind fun bt494 => ((laws_toLeaper.f a1_0 a1_1).bind fun bt499 => ((laws_toIntS.f kj62 l2).bind fun t501 => ((impl_TurnTail.f kj62 bt494.1 bt494.2.1 bt494.2.2 bt499.1 bt499.2 t501 a3).bind fun bt504 => ((laws_eqIntS.f kj62 bt504.1 t456).bind fun t508 => (if t508 = true then (laws_FnExactTurnTail.j2 kj62 bt491.2 bt491.1 (bt504.2 != t459)) else (laws_FnExactTurnTail.j2 kj62 bt491.2 bt491.1 true))))))) else (some false))))) = some r := by rw [if_neg (show ¬ (false = true) by decide)] at H; exact H
     clear H
     have H := H1
     clear H1
     replace H := Option.bind_eq_some_iff.mp H
     obtain ⟨⟨t491, t492⟩, A830, H⟩ := H
     replace H : ((laws_heldIntS.f kj62 t492 1).bind fun t493 => (if t493 < 0 then (some false) else (if t493 = t491 then ((laws_toBoard.f kj62 a0_0 a0_1 l0_2).bind fun bt494 => ((laws_toLeaper.f a1_0 a1_1).bind fun bt499 => ((laws_toIntS.f kj62 l2).bind fun t501 => ((impl_TurnTail.f kj62 bt494.1 bt494.2.1 bt494.2.2 bt499.1 bt499.2 t501 a3).bind fun bt504 => ((laws_eqIntS.f kj62 bt504.1 t456).bind fun t508 => (if t508 = true then (laws_FnExactTurnTail.j2 kj62 t492 t491 (bt504.2 != t459)) else (laws_FnExactTurnTail.j2 kj62 t492 t491 true))))))) else (some false)))) = some r := H
     have A83 := Aside0.mk A830
     clear A830
     replace H := Option.bind_eq_some_iff.mp H
     obtain ⟨t493, A840, H⟩ := H
     replace H : (if t493 < 0 then (some false) else (if t493 = t491 then ((laws_toBoard.f kj62 a0_0 a0_1 l0_2).bind fun bt494 => ((laws_toLeaper.f a1_0 a1_1).bind fun bt499 => ((laws_toIntS.f kj62 l2).bind fun t501 => ((impl_TurnTail.f kj62 bt494.1 bt494.2.1 bt494.2.2 bt499.1 bt499.2 t501 a3).bind fun bt504 => ((laws_eqIntS.f kj62 bt504.1 t456).bind fun t508 => (if t508 = true then (laws_FnExactTurnTail.j2 kj62 t492 t491 (bt504.2 != t459)) else (laws_FnExactTurnTail.j2 kj62 t492 t491 true))))))) else (some false))) = some r := H
     have A84 := Aside0.mk A840
     clear A840
     by_cases c85 : t493 < 0
     ·rw [if_pos c85] at H
      have c85b0 : decide (t493 < 0) = true := decide_eq_true c85
      clear c85
      obtain rfl := Option.some.inj H
      obtain ⟨Ao86, co86, eo86⟩ := Kd.R_slice HO_14.out
      subst eo86
      go_wp2_with (first | ((with_reducible refine gate_callee (f := 21) rfl ?_); refine goesL_ (some 93) rfl rfl Try.func21 (by kernel_rfl) rfl #[.slice Ao86 t471.length co86, .int .i64 1] rfl zt3 ?_; (with_reducible refine (laws_markIntS.calls kj62 (fun k_ => some k_ = (.slice Ao86 t471.length co86 : Value).ownBlock) (.slice Ao86 t471.length co86) t471 1 t491 t492 w _ ?side1 ?side2 A83.out).mono ?_); (case side1 => exact zt1); (case side2 => exact Kd.R_tight rfl HO_14.out); rintro e w87 ⟨rfl, hy0, hb, hkp⟩; refine ⟨_, rfl, ?_⟩; have n0_ := Aside0.mk (Kd.R_mono (ok' := fun k_ => some k_ ≠ (.slice Ao86 t471.length co86 : Value).ownBlock ∧ some k_ ≠ (.slice Ao42 t487.length co42 : Value).ownBlock) (Kd.R_keptB (HO_10.out) hkp (fun k_ hk_ hs_ => (hk_.1) hs_)) (fun k_ hk_ => ⟨hk_.1.1, hk_.1.2⟩)); have n1_ := Aside0.mk (Kd.R_reok rfl hy0 (fun k_ e_ => HO_14.out.1 k_ e_)); have n2_ := Aside0.mk (Kd.R_mono (ok' := fun k_ => some k_ ≠ (v457 : Value).ownBlock ∧ some k_ ≠ (.slice Ao86 t471.length co86 : Value).ownBlock) (Kd.R_keptB (HO_466002.out) hkp (fun k_ hk_ hs_ => (hk_.2) hs_)) (fun k_ hk_ => ⟨hk_.1.1, hk_.1.2⟩)); have n3_ := Aside0.mk (blk_kept zt2 hkp (fun hs_ => (fun e_ => (Kd.R_ne HO_14.out BK443.out (by decide)) e_) hs_)); have n4_ := Aside0.mk (blk_kept zt4 hkp (fun hs_ => (fun e_ => (Kd.R_ne HO_14.out BK444.out (by decide)) e_) hs_)); have n5_ := Aside0.mk (blk_kept zt6 hkp (fun hs_ => (fun e_ => (Kd.R_ne HO_14.out BK465.out (by decide)) e_) hs_)); have n6_ := Aside0.mk (hb); clear HO_10; clear HO_14; clear HO_466002; clear BK443; clear BK444; clear BK465; clear HB; have HO_10 := n0_; have HO_14 := n1_; have HO_466002 := n2_; have BK443 := n3_; have BK444 := n4_; have BK465 := n5_; have HB := n6_; clear n0_ n1_ n2_ n3_ n4_ n5_ n6_; (try clear hb); (try clear hkp); (try clear hy0)) | ((with_reducible refine gate_callee (f := 22) rfl ?_); refine goesL_ (some 96) rfl rfl Try.func22 (by kernel_rfl) rfl #[.slice Ao86 t492.length co86, .int .i64 1] rfl zt22 ?_; (with_reducible refine (laws_heldIntS.calls kj62 _ _ t492 1 t493 _ ?side1 ?side2 A84.out).mono ?_); (case side1 => exact zt13); (case side2 => exact zt36); rintro e w' ⟨rfl, ⟨nd, rfl⟩⟩; refine ⟨_, rfl, ?_⟩))
      go_ret
      exact ⟨zt16, zt1⟩
     rw [if_neg c85] at H
     have c85b0 : decide (t493 < 0) = false := decide_eq_false c85
     clear c85
     by_cases c88 : t493 = t491
     rotate_left
     ·rw [if_neg c88] at H
      have c88b0 : (t493 == t491) = false := beq_eq_false_iff_ne.mpr c88
      have c88b1 : (t493 != t491) = true := bne_iff_ne.mpr c88
      obtain rfl := Option.some.inj H
      obtain ⟨Ao113, co113, eo113⟩ := Kd.R_slice HO_14.out
      subst eo113
      go_wp2_with (first | ((with_reducible refine gate_callee (f := 21) rfl ?_); refine goesL_ (some 93) rfl rfl Try.func21 (by kernel_rfl) rfl #[.slice Ao113 t471.length co113, .int .i64 1] rfl zt3 ?_; (with_reducible refine (laws_markIntS.calls kj62 (fun k_ => some k_ = (.slice Ao113 t471.length co113 : Value).ownBlock) (.slice Ao113 t471.length co113) t471 1 t491 t492 w _ ?side1 ?side2 A83.out).mono ?_); (case side1 => exact zt1); (case side2 => exact Kd.R_tight rfl HO_14.out); rintro e w114 ⟨rfl, hy0, hb, hkp⟩; refine ⟨_, rfl, ?_⟩; have n0_ := Aside0.mk (Kd.R_mono (ok' := fun k_ => some k_ ≠ (.slice Ao113 t471.length co113 : Value).ownBlock ∧ some k_ ≠ (.slice Ao42 t487.length co42 : Value).ownBlock) (Kd.R_keptB (HO_10.out) hkp (fun k_ hk_ hs_ => (hk_.1) hs_)) (fun k_ hk_ => ⟨hk_.1.1, hk_.1.2⟩)); have n1_ := Aside0.mk (Kd.R_reok rfl hy0 (fun k_ e_ => HO_14.out.1 k_ e_)); have n2_ := Aside0.mk (Kd.R_mono (ok' := fun k_ => some k_ ≠ (v457 : Value).ownBlock ∧ some k_ ≠ (.slice Ao113 t471.length co113 : Value).ownBlock) (Kd.R_keptB (HO_466002.out) hkp (fun k_ hk_ hs_ => (hk_.2) hs_)) (fun k_ hk_ => ⟨hk_.1.1, hk_.1.2⟩)); have n3_ := Aside0.mk (blk_kept zt2 hkp (fun hs_ => (fun e_ => (Kd.R_ne HO_14.out BK443.out (by decide)) e_) hs_)); have n4_ := Aside0.mk (blk_kept zt4 hkp (fun hs_ => (fun e_ => (Kd.R_ne HO_14.out BK444.out (by decide)) e_) hs_)); have n5_ := Aside0.mk (blk_kept zt6 hkp (fun hs_ => (fun e_ => (Kd.R_ne HO_14.out BK465.out (by decide)) e_) hs_)); have n6_ := Aside0.mk (hb); clear HO_10; clear HO_14; clear HO_466002; clear BK443; clear BK444; clear BK465; clear HB; have HO_10 := n0_; have HO_14 := n1_; have HO_466002 := n2_; have BK443 := n3_; have BK444 := n4_; have BK465 := n5_; have HB := n6_; clear n0_ n1_ n2_ n3_ n4_ n5_ n6_; (try clear hb); (try clear hkp); (try clear hy0)) | ((with_reducible refine gate_callee (f := 22) rfl ?_); refine goesL_ (some 96) rfl rfl Try.func22 (by kernel_rfl) rfl #[.slice Ao113 t492.length co113, .int .i64 1] rfl zt22 ?_; (with_reducible refine (laws_heldIntS.calls kj62 _ _ t492 1 t493 _ ?side1 ?side2 A84.out).mono ?_); (case side1 => exact zt13); (case side2 => exact zt36); rintro e w' ⟨rfl, ⟨nd, rfl⟩⟩; refine ⟨_, rfl, ?_⟩))
      go_ret
      exact ⟨zt16, zt1⟩
     rw [if_pos c88] at H
     have c88b0 : (t493 == t491) = true := beq_iff_eq.mpr c88
     have c88b1 : (t493 != t491) = false := bne_eq_false_iff_eq.mpr c88
     clear c88
     replace H := Option.bind_eq_some_iff.mp H
     obtain ⟨⟨t494, t495, t496⟩, A890, H⟩ := H
     replace H : ((laws_toLeaper.f a1_0 a1_1).bind fun bt499 => ((laws_toIntS.f kj62 l2).bind fun t501 => ((impl_TurnTail.f kj62 t494 t495 t496 bt499.1 bt499.2 t501 a3).bind fun bt504 => ((laws_eqIntS.f kj62 bt504.1 t456).bind fun t508 => (if t508 = true then (laws_FnExactTurnTail.j2 kj62 t492 t491 (bt504.2 != t459)) else (laws_FnExactTurnTail.j2 kj62 t492 t491 true)))))) = some r := H
     have A89 := Aside0.mk A890
     clear A890
     replace H := Option.bind_eq_some_iff.mp H
     obtain ⟨⟨t499, t500⟩, A900, H⟩ := H
     replace H : ((laws_toIntS.f kj62 l2).bind fun t501 => ((impl_TurnTail.f kj62 t494 t495 t496 t499 t500 t501 a3).bind fun bt504 => ((laws_eqIntS.f kj62 bt504.1 t456).bind fun t508 => (if t508 = true then (laws_FnExactTurnTail.j2 kj62 t492 t491 (bt504.2 != t459)) else (laws_FnExactTurnTail.j2 kj62 t492 t491 true))))) = some r := H
     have A90 := Aside0.mk A900
     clear A900
     replace H := Option.bind_eq_some_iff.mp H
     obtain ⟨t501, A910, H⟩ := H
     replace H : ((impl_TurnTail.f kj62 t494 t495 t496 t499 t500 t501 a3).bind fun bt504 => ((laws_eqIntS.f kj62 bt504.1 t456).bind fun t508 => (if t508 = true then (laws_FnExactTurnTail.j2 kj62 t492 t491 (bt504.2 != t459)) else (laws_FnExactTurnTail.j2 kj62 t492 t491 true)))) = some r := H
     have A91 := Aside0.mk A910
     clear A910
     replace H := Option.bind_eq_some_iff.mp H
     obtain ⟨⟨t504, t507⟩, A920, H⟩ := H
     replace H : ((laws_eqIntS.f kj62 t504 t456).bind fun t508 => (if t508 = true then (laws_FnExactTurnTail.j2 kj62 t492 t491 (t507 != t459)) else (laws_FnExactTurnTail.j2 kj62 t492 t491 true))) = some r := H
     have A92 := Aside0.mk A920
     clear A920
     have HC93 := Aside0.mk H
     clear H
     obtain ⟨Ao94, co94, eo94⟩ := Kd.R_slice HO_14.out
     subst eo94
     try go_wp2_with (first | ((with_reducible refine gate_callee (f := 21) rfl ?_); refine goesL_ (some 93) rfl rfl Try.func21 (by kernel_rfl) rfl #[.slice Ao94 t471.length co94, .int .i64 1] rfl zt3 ?_; (with_reducible refine (laws_markIntS.calls kj62 (fun k_ => some k_ = (.slice Ao94 t471.length co94 : Value).ownBlock) (.slice Ao94 t471.length co94) t471 1 t491 t492 w _ ?side1 ?side2 A83.out).mono ?_); (case side1 => exact zt1); (case side2 => exact Kd.R_tight rfl HO_14.out); rintro e w95 ⟨rfl, hy0, hb, hkp⟩; refine ⟨_, rfl, ?_⟩; have n0_ := Aside0.mk (Kd.R_mono (ok' := fun k_ => some k_ ≠ (.slice Ao94 t471.length co94 : Value).ownBlock ∧ some k_ ≠ (.slice Ao42 t487.length co42 : Value).ownBlock) (Kd.R_keptB (HO_10.out) hkp (fun k_ hk_ hs_ => (hk_.1) hs_)) (fun k_ hk_ => ⟨hk_.1.1, hk_.1.2⟩)); have n1_ := Aside0.mk (Kd.R_reok rfl hy0 (fun k_ e_ => HO_14.out.1 k_ e_)); have n2_ := Aside0.mk (Kd.R_mono (ok' := fun k_ => some k_ ≠ (v457 : Value).ownBlock ∧ some k_ ≠ (.slice Ao94 t471.length co94 : Value).ownBlock) (Kd.R_keptB (HO_466002.out) hkp (fun k_ hk_ hs_ => (hk_.2) hs_)) (fun k_ hk_ => ⟨hk_.1.1, hk_.1.2⟩)); have n3_ := Aside0.mk (blk_kept zt2 hkp (fun hs_ => (fun e_ => (Kd.R_ne HO_14.out BK443.out (by decide)) e_) hs_)); have n4_ := Aside0.mk (blk_kept zt4 hkp (fun hs_ => (fun e_ => (Kd.R_ne HO_14.out BK444.out (by decide)) e_) hs_)); have n5_ := Aside0.mk (blk_kept zt6 hkp (fun hs_ => (fun e_ => (Kd.R_ne HO_14.out BK465.out (by decide)) e_) hs_)); have n6_ := Aside0.mk (hb); clear HO_10; clear HO_14; clear HO_466002; clear BK443; clear BK444; clear BK465; clear HB; have HO_10 := n0_; have HO_14 := n1_; have HO_466002 := n2_; have BK443 := n3_; have BK444 := n4_; have BK465 := n5_; have HB := n6_; clear n0_ n1_ n2_ n3_ n4_ n5_ n6_; (try clear hb); (try clear hkp); (try clear hy0)) | ((with_reducible refine gate_callee (f := 22) rfl ?_); refine goesL_ (some 96) rfl rfl Try.func22 (by kernel_rfl) rfl #[.slice Ao94 t492.length co94, .int .i64 1] rfl zt22 ?_; (with_reducible refine (laws_heldIntS.calls kj62 _ _ t492 1 t493 _ ?side1 ?side2 A84.out).mono ?_); (case side1 => exact zt13); (case side2 => exact zt36); rintro e w' ⟨rfl, ⟨nd, rfl⟩⟩; refine ⟨_, rfl, ?_⟩))
     (try (rw [drewN_self w95]; generalize hq_ : World.drewN w95 _ = w95; have n0_ : Aside0 (Kd.R (Kd.int .i64) 3 w95 w.heap.size (fun k_ => (some k_ ≠ (.slice Ao94 t471.length co94 : Value).ownBlock ∧ some k_ ≠ (.slice Ao42 t487.length co42 : Value).ownBlock)) v457 t456) := ⟨by rw [← hq_]; exact zt9⟩; have n1_ : Aside0 (Kd.R (Kd.int .i64) 3 w95 w.heap.size (fun k_ => (some k_ ≠ (v457 : Value).ownBlock ∧ some k_ ≠ (.slice Ao42 t487.length co42 : Value).ownBlock)) (.slice Ao94 t471.length co94) t492) := ⟨by rw [← hq_]; exact zt8⟩; have n2_ : Aside0 (Kd.R (Kd.int .i64) 3 w95 w.heap.size (fun k_ => (some k_ ≠ (v457 : Value).ownBlock ∧ some k_ ≠ (.slice Ao94 t471.length co94 : Value).ownBlock)) (.slice Ao42 t487.length co42) t487) := ⟨by rw [← hq_]; exact zt7⟩; have n3_ : Aside0 (w95.heap[gb443]? = some (.cells #[.int .i64 a0_0, .int .i64 a0_1, .slice A0_2 l0_2.length c0_2] 24 (0, 0))) := ⟨by rw [← hq_]; exact zt2⟩; have n4_ : Aside0 (w95.heap[gb444]? = some (.cells #[.int .i64 a1_0, .int .i64 a1_1] 26 (0, 0))) := ⟨by rw [← hq_]; exact zt4⟩; have n5_ : Aside0 (w95.heap[gb465]? = some (.cells #[.int .i64 t460, .int .i64 t461, .slice Ao42 t487.length co42] 30 (0, 0))) := ⟨by rw [← hq_]; exact zt6⟩; have n6_ : Aside0 (Below w.heap.size w w95) := ⟨by rw [← hq_]; exact zt1⟩; clear HO_10 HO_14 HO_466002 BK443 BK444 BK465 HB hq_; have HO_10 := n0_; have HO_14 := n1_; have HO_466002 := n2_; have BK443 := n3_; have BK444 := n4_; have BK465 := n5_; have HB := n6_; clear n0_ n1_ n2_ n3_ n4_ n5_ n6_))
     have n0_ := Aside0.mk (Kd.R_drew HO_10.out)
     have n1_ := Aside0.mk (Kd.R_drew HO_14.out)
     have n2_ := Aside0.mk (Kd.R_drew HO_466002.out)
     have n3_ := Aside0.mk (blk_drew BK443.out)
     have n4_ := Aside0.mk (blk_drew BK444.out)
     have n5_ := Aside0.mk (blk_drew BK465.out)
     have n6_ := Aside0.mk (below_drew1 HB.out)
     clear HO_10
     clear HO_14
     clear HO_466002
     clear BK443
     clear BK444
     clear BK465
     clear HB
     have HO_10 := n0_
     have HO_14 := n1_
     have HO_466002 := n2_
     have BK443 := n3_
     have BK444 := n4_
     have BK465 := n5_
     have HB := n6_
     clear n0_ n1_ n2_ n3_ n4_ n5_ n6_
     refine start_ (n := 13) (S := fun w' => w'.cell? ⟨gb443, 0, none⟩ = some (.int .i64 a0_0) ∧ w'.cell? ⟨gb443, 1, none⟩ = some (.int .i64 a0_1) ∧ w'.cell? ⟨gb443, 2, none⟩ = some (.slice A0_2 l0_2.length c0_2) ∧ w'.cell? ⟨gb444, 0, none⟩ = some (.int .i64 a1_0) ∧ w'.cell? ⟨gb444, 1, none⟩ = some (.int .i64 a1_1)) (ds := []) #[false, false, false, false, false, false, false, false, false, false, false, false, false] (by kernel_rfl) rfl rfl ⟨(blk_cell BK443.out 0).trans rfl, (blk_cell BK443.out 1).trans rfl, (blk_cell BK443.out 2).trans rfl, (blk_cell BK444.out 0).trans rfl, (blk_cell BK444.out 1).trans rfl⟩ (fun hHeld => ?_); refine with_tabW laws_FnExactTurnTail.tab30 laws_FnExactTurnTail.bits30 (fun HT_ HW_ => ?_)
     generalize w95.drew = w96 at HO_10 HO_14 HO_466002 BK443 BK444 BK465 HB hHeld ⊢
     refine pure_ (i := 4) (N := some 107) (v := ?_) (a' := ?_) #[false, false, false, false, true, false, false, false, false, false, false, false, false] rfl rfl (any_of HT_.out (by kernel_rfl)) (fun _ _ _ h => h) (Or.inl ⟨by rfl, ?_⟩) ?_ ?_
     rotate_left
     ·intro w'
      go_simp
      with_reducible rfl
     rotate_left
     ·simp only [Act.put, List.setIfInBounds_toArray, List.set_cons_zero, List.set_cons_succ, i64_w, i32_w]
      rfl
     refine pure_ (i := 6) (N := some 109) (v := ?_) (a' := ?_) #[false, false, false, false, true, false, true, false, false, false, false, false, false] rfl rfl (any_of HT_.out (by kernel_rfl)) (fun _ _ _ h => h) (Or.inl ⟨by rfl, ?_⟩) ?_ ?_
     rotate_left
     ·intro w'
      go_simp
      with_reducible rfl
     rotate_left
     ·simp only [Act.put, List.setIfInBounds_toArray, List.set_cons_zero, List.set_cons_succ, i64_w, i32_w]
      rfl
     refine take_ (i := 0) (N := some 103) (v := ?_) (a' := ?_) #[true, false, false, false, true, false, true, false, false, false, false, false, false] rfl rfl (take_ofW HT_.out HW_.out (by kernel_rfl)) (fun _ _ _ h => h) (Or.inl ⟨by rfl, ?_⟩) hHeld ?_ ?_
     rotate_left
     ·rintro w' ⟨s0, s1, s2, s3, s4⟩
      go_simp
      with_reducible rfl
     rotate_left
     ·simp only [Act.put, List.setIfInBounds_toArray, List.set_cons_zero, List.set_cons_succ, i64_w, i32_w]
      rfl
     refine take_ (i := 2) (N := some 105) (v := ?_) (a' := ?_) #[true, false, true, false, true, false, true, false, false, false, false, false, false] rfl rfl (take_ofW HT_.out HW_.out (by kernel_rfl)) (fun _ _ _ h => h) (Or.inl ⟨by rfl, ?_⟩) hHeld ?_ ?_
     rotate_left
     ·rintro w' ⟨s0, s1, s2, s3, s4⟩
      go_simp
      with_reducible rfl
     rotate_left
     ·simp only [Act.put, List.setIfInBounds_toArray, List.set_cons_zero, List.set_cons_succ, i64_w, i32_w]
      rfl
     refine one_ (i := 1) (N := some 104) #[true, true, true, false, true, false, true, false, false, false, false, false, false] rfl rfl (one_of HT_.out (by kernel_rfl)) (by decide) (fun K hK => ?_)
     refine goes_ Try.func14 (by kernel_rfl) rfl #[.agg #[.int .i64 a0_0, .int .i64 a0_1, .slice A0_2 l0_2.length c0_2]] (by rfl) rfl rfl zt3 ?_
     with_reducible refine (laws_toBoard.calls kj62 a0_0 a0_1 _ _ l0_2 t494 t495 t496 _ ?side1 ?side2 A89.out).mono ?_
     (case side1 => exact zt12)
     (case side2 => exact HC0_2.out)
     rintro e w97 ⟨v497, rfl, ho0, hb⟩
     refine ⟨_, rfl, ?_⟩
     have n0_ := Aside0.mk (Kd.R_elder' zt9 (Kd.R_base ho0) hb)
     have n1_ := Aside0.mk (Kd.R_elder' zt8 (Kd.R_base ho0) hb)
     have n2_ := Aside0.mk (Kd.R_elder' zt7 (Kd.R_base ho0) hb)
     have n3_ := Aside0.mk (Kd.R_lower (Kd.R_new' (Kd.R_new' (Kd.R_new' ho0 (Kd.R_lt zt9)) (Kd.R_lt zt8)) (Kd.R_lt zt7)) (below_size zt1))
     have n4_ := Aside0.mk (blk_below (g := gb443) (o := .cells #[.int .i64 a0_0, .int .i64 a0_1, .slice A0_2 l0_2.length c0_2] 24 (0, 0)) zt2 hb)
     have n5_ := Aside0.mk (blk_below (g := gb444) (o := .cells #[.int .i64 a1_0, .int .i64 a1_1] 26 (0, 0)) zt4 hb)
     have n6_ := Aside0.mk (blk_below (g := gb465) (o := .cells #[.int .i64 t460, .int .i64 t461, .slice Ao42 t487.length co42] 30 (0, 0)) zt6 hb)
     have n7_ := Aside0.mk (below_step zt1 hb)
     clear HO_10
     clear HO_14
     clear HO_466002
     clear BK443
     clear BK444
     clear BK465
     clear HB
     have HO_10 := n0_
     have HO_14 := n1_
     have HO_466002 := n2_
     have HO498 := n3_
     have BK443 := n4_
     have BK444 := n5_
     have BK465 := n6_
     have HB := n7_
     clear n0_ n1_ n2_ n3_ n4_ n5_ n6_ n7_
     (try clear hb)
     (try clear hb2)
     (try clear hk)
     (try clear hi)
     (try clear ho0)
     (try clear hna_)
     (try clear hnb_)
     refine hK.out _ _ ⟨(blk_cell BK443.out 0).trans rfl, (blk_cell BK443.out 1).trans rfl, (blk_cell BK443.out 2).trans rfl, (blk_cell BK444.out 0).trans rfl, (blk_cell BK444.out 1).trans rfl⟩ (fun hHeld => ?_)
     clear hK K
     refine norm_ (a' := ?_) ?_ ?_
     rotate_left
     ·show Act.put _ (some 104) _ = _
      simp only [Act.put, List.setIfInBounds_toArray, List.set_cons_zero, List.set_cons_succ, i64_w, i32_w]
      rfl
     refine one_ (i := 3) (N := some 106) #[true, true, true, true, true, false, true, false, false, false, false, false, false] rfl rfl (one_of HT_.out (by kernel_rfl)) (by decide) (fun K hK => ?_)
     refine goes_ Try.func15 (by kernel_rfl) rfl #[.agg #[.int .i64 a1_0, .int .i64 a1_1]] (by rfl) rfl rfl zt3 ?_
     with_reducible refine (laws_toLeaper.calls a1_0 a1_1 t499 t500 _ A90.out).mono ?_
     rintro e w98 ⟨rfl, hb⟩
     refine ⟨_, rfl, ?_⟩
     have n0_ := Aside0.mk (Kd.R_below zt9 hb)
     have n1_ := Aside0.mk (Kd.R_below zt8 hb)
     have n2_ := Aside0.mk (Kd.R_below zt7 hb)
     have n3_ := Aside0.mk (Kd.R_below zt27 hb)
     have n4_ := Aside0.mk (blk_below (g := gb443) (o := .cells #[.int .i64 a0_0, .int .i64 a0_1, .slice A0_2 l0_2.length c0_2] 24 (0, 0)) zt2 hb)
     have n5_ := Aside0.mk (blk_below (g := gb444) (o := .cells #[.int .i64 a1_0, .int .i64 a1_1] 26 (0, 0)) zt4 hb)
     have n6_ := Aside0.mk (blk_below (g := gb465) (o := .cells #[.int .i64 t460, .int .i64 t461, .slice Ao42 t487.length co42] 30 (0, 0)) zt6 hb)
     have n7_ := Aside0.mk (below_step zt1 hb)
     clear HO_10
     clear HO_14
     clear HO_466002
     clear HO498
     clear BK443
     clear BK444
     clear BK465
     clear HB
     have HO_10 := n0_
     have HO_14 := n1_
     have HO_466002 := n2_
     have HO498 := n3_
     have BK443 := n4_
     have BK444 := n5_
     have BK465 := n6_
     have HB := n7_
     clear n0_ n1_ n2_ n3_ n4_ n5_ n6_ n7_
     (try clear hb)
     (try clear hb2)
     (try clear hk)
     (try clear hi)
     (try clear hna_)
     (try clear hnb_)
     refine hK.out _ _ ⟨(blk_cell BK443.out 0).trans rfl, (blk_cell BK443.out 1).trans rfl, (blk_cell BK443.out 2).trans rfl, (blk_cell BK444.out 0).trans rfl, (blk_cell BK444.out 1).trans rfl⟩ (fun hHeld => ?_)
     clear hK K
     refine norm_ (a' := ?_) ?_ ?_
     rotate_left
     ·show Act.put _ (some 106) _ = _
      simp only [Act.put, List.setIfInBounds_toArray, List.set_cons_zero, List.set_cons_succ, i64_w, i32_w]
      rfl
     refine one_ (i := 5) (N := some 108) #[true, true, true, true, true, true, true, false, false, false, false, false, false] rfl rfl (one_of HT_.out (by kernel_rfl)) (by decide) (fun K hK => ?_)
     refine goes_ Try.func16 (by kernel_rfl) rfl #[.slice A2 l2.length c2] (by rfl) rfl rfl zt3 ?_
     with_reducible refine (laws_toIntS.calls kj62 _ _ l2 t501 _ ?side1 ?side2 A91.out).mono ?_
     (case side1 => exact zt21)
     (case side2 => exact HC2.out)
     rintro e w99 ⟨v502, rfl, ho0, hb⟩
     refine ⟨_, rfl, ?_⟩
     have n0_ := Aside0.mk (Kd.R_elder' zt9 (Kd.R_base ho0) hb)
     have n1_ := Aside0.mk (Kd.R_elder' zt8 (Kd.R_base ho0) hb)
     have n2_ := Aside0.mk (Kd.R_elder' zt7 (Kd.R_base ho0) hb)
     have n3_ := Aside0.mk (Kd.R_elder' zt27 (Kd.R_base ho0) hb)
     have n4_ := Aside0.mk (Kd.R_lower (Kd.R_new' (Kd.R_new' (Kd.R_new' (Kd.R_new' ho0 (Kd.R_lt zt9)) (Kd.R_lt zt8)) (Kd.R_lt zt7)) (Kd.R_lt zt27)) (below_size zt1))
     have n5_ := Aside0.mk (blk_below (g := gb443) (o := .cells #[.int .i64 a0_0, .int .i64 a0_1, .slice A0_2 l0_2.length c0_2] 24 (0, 0)) zt2 hb)
     have n6_ := Aside0.mk (blk_below (g := gb444) (o := .cells #[.int .i64 a1_0, .int .i64 a1_1] 26 (0, 0)) zt4 hb)
     have n7_ := Aside0.mk (blk_below (g := gb465) (o := .cells #[.int .i64 t460, .int .i64 t461, .slice Ao42 t487.length co42] 30 (0, 0)) zt6 hb)
     have n8_ := Aside0.mk (below_step zt1 hb)
     clear HO_10
     clear HO_14
     clear HO_466002
     clear HO498
     clear BK443
     clear BK444
     clear BK465
     clear HB
     have HO_10 := n0_
     have HO_14 := n1_
     have HO_466002 := n2_
     have HO498 := n3_
     have HO503 := n4_
     have BK443 := n5_
     have BK444 := n6_
     have BK465 := n7_
     have HB := n8_
     clear n0_ n1_ n2_ n3_ n4_ n5_ n6_ n7_ n8_
     (try clear hb)
     (try clear hb2)
     (try clear hk)
     (try clear hi)
     (try clear ho0)
     (try clear hna_)
     (try clear hnb_)
     obtain ⟨Ao100, co100, eo100⟩ := Kd.R_slice HO498.out
     (first | subst eo100 | (injection eo100 with f1_ f2_ f3_; have f4_ := f1_.symm; have f5_ := f3_.symm; clear f1_ f2_ f3_; subst f4_; subst f5_))
     obtain ⟨Ao101, co101, eo101⟩ := Kd.R_slice HO503.out
     (first | subst eo101 | (injection eo101 with f1_ f2_ f3_; have f4_ := f1_.symm; have f5_ := f3_.symm; clear f1_ f2_ f3_; subst f4_; subst f5_))
     refine hK.out _ _ ⟨(blk_cell BK443.out 0).trans rfl, (blk_cell BK443.out 1).trans rfl, (blk_cell BK443.out 2).trans rfl, (blk_cell BK444.out 0).trans rfl, (blk_cell BK444.out 1).trans rfl⟩ (fun hHeld => ?_)
     clear hK K
     refine norm_ (a' := ?_) ?_ ?_
     rotate_left
     ·show Act.put _ (some 108) _ = _
      simp only [Act.put, List.setIfInBounds_toArray, List.set_cons_zero, List.set_cons_succ, i64_w, i32_w]
      rfl
     refine one_ (i := 7) (N := some 110) #[true, true, true, true, true, true, true, true, false, false, false, false, false] rfl rfl (one_of HT_.out (by kernel_rfl)) (by decide) (fun K hK => ?_)
     refine goes_ Try.func24 (by kernel_rfl) rfl #[.agg #[.int .i64 t494, .int .i64 t495, .slice Ao100 t496.length co100], .agg #[.int .i64 t499, .int .i64 t500], .slice Ao101 t501.length co101, .int .i64 a3] (by rfl) rfl rfl zt3 ?_
     with_reducible refine (impl_TurnTail.calls kj62 t494 t495 _ _ t496 t499 t500 _ _ t501 a3 t504 t507 _ ?side1 ?side2 ?side3 ?side4 A92.out).mono ?_
     (case side1 => repeat (first | exact (Kd.R_reads' HO498.out).2.2 | (with_reducible refine Kd.C_alloc ?_ _) | (with_reducible refine Kd.C_drewN ?_ _) | (with_reducible refine Kd.C_drew ?_)))
     (case side2 => exact (Kd.R_reads' HO498.out).2.1)
     (case side3 => repeat (first | exact (Kd.R_reads' HO503.out).2.2 | (with_reducible refine Kd.C_alloc ?_ _) | (with_reducible refine Kd.C_drewN ?_ _) | (with_reducible refine Kd.C_drew ?_)))
     (case side4 => exact (Kd.R_reads' HO503.out).2.1)
     rintro e w102 ⟨v505, rfl, ho0, hb⟩
     refine ⟨_, rfl, ?_⟩
     have n0_ := Aside0.mk (Kd.R_elder' zt9 (Kd.R_base ho0) hb)
     have n1_ := Aside0.mk (Kd.R_elder' zt8 (Kd.R_base ho0) hb)
     have n2_ := Aside0.mk (Kd.R_elder' zt7 (Kd.R_base ho0) hb)
     have n3_ := Aside0.mk (Kd.R_elder' zt27 (Kd.R_base ho0) hb)
     have n4_ := Aside0.mk (Kd.R_elder' (by first | exact HO503.out | ((with_reducible repeat (first | apply Kd.R_alloc | apply Kd.R_drewN | apply Kd.R_drew)); exact HO503.out)) (Kd.R_base ho0) hb)
     have n5_ := Aside0.mk (Kd.R_lower (Kd.R_new' (Kd.R_new' (Kd.R_new' (Kd.R_new' (Kd.R_new' ho0 (Kd.R_lt zt9)) (Kd.R_lt zt8)) (Kd.R_lt zt7)) (Kd.R_lt zt27)) (Kd.R_lt (by first | exact HO503.out | ((with_reducible repeat (first | apply Kd.R_alloc | apply Kd.R_drewN | apply Kd.R_drew)); exact HO503.out)))) (below_size zt1))
     have n6_ := Aside0.mk (blk_below (g := gb443) (o := .cells #[.int .i64 a0_0, .int .i64 a0_1, .slice A0_2 l0_2.length c0_2] 24 (0, 0)) zt2 hb)
     have n7_ := Aside0.mk (blk_below (g := gb444) (o := .cells #[.int .i64 a1_0, .int .i64 a1_1] 26 (0, 0)) zt4 hb)
     have n8_ := Aside0.mk (blk_below (g := gb465) (o := .cells #[.int .i64 t460, .int .i64 t461, .slice Ao42 t487.length co42] 30 (0, 0)) zt6 hb)
     have n9_ := Aside0.mk (below_step zt1 hb)
     clear HO_10
     clear HO_14
     clear HO_466002
     clear HO498
     clear HO503
     clear BK443
     clear BK444
     clear BK465
     clear HB
     have HO_10 := n0_
     have HO_14 := n1_
     have HO_466002 := n2_
     have HO498 := n3_
     have HO503 := n4_
     have HO506 := n5_
     have BK443 := n6_
     have BK444 := n7_
     have BK465 := n8_
     have HB := n9_
     clear n0_ n1_ n2_ n3_ n4_ n5_ n6_ n7_ n8_ n9_
     (try clear hb)
     (try clear hb2)
     (try clear hk)
     (try clear hi)
     (try clear ho0)
     (try clear hna_)
     (try clear hnb_)
     refine hK.out _ _ ⟨(blk_cell BK443.out 0).trans rfl, (blk_cell BK443.out 1).trans rfl, (blk_cell BK443.out 2).trans rfl, (blk_cell BK444.out 0).trans rfl, (blk_cell BK444.out 1).trans rfl⟩ (fun hHeld => ?_)
     clear hK K
     refine norm_ (a' := ?_) ?_ ?_
     rotate_left
     ·show Act.put _ (some 110) _ = _
      simp only [Act.put, List.setIfInBounds_toArray, List.set_cons_zero, List.set_cons_succ, i64_w, i32_w]
      rfl
     refine pure_ (i := 8) (N := some 102) (v := ?_) (a' := ?_) #[true, true, true, true, true, true, true, true, true, false, false, false, false] rfl rfl (any_of HT_.out (by kernel_rfl)) (fun _ _ _ h => h) (Or.inl ⟨by rfl, ?_⟩) ?_ ?_
     rotate_left
     ·intro w'
      go_simp
      with_reducible rfl
     rotate_left
     ·simp only [Act.put, List.setIfInBounds_toArray, List.set_cons_zero, List.set_cons_succ, i64_w, i32_w]
      rfl
     refine pure_ (i := 9) (N := some 111) (v := ?_) (a' := ?_) #[true, true, true, true, true, true, true, true, true, true, false, false, false] rfl rfl (any_of HT_.out (by kernel_rfl)) (fun _ _ _ h => h) (Or.inl ⟨by rfl, ?_⟩) ?_ ?_
     rotate_left
     ·intro w'
      go_simp
      with_reducible rfl
     rotate_left
     ·simp only [Act.put, List.setIfInBounds_toArray, List.set_cons_zero, List.set_cons_succ, i64_w, i32_w]
      rfl
     refine pure_ (i := 10) (N := some 112) (v := ?_) (a' := ?_) #[true, true, true, true, true, true, true, true, true, true, true, false, false] rfl rfl (any_of HT_.out (by kernel_rfl)) (fun _ _ _ h => h) (Or.inl ⟨by rfl, ?_⟩) ?_ ?_
     rotate_left
     ·intro w'
      go_simp
      with_reducible rfl
     rotate_left
     ·simp only [Act.put, List.setIfInBounds_toArray, List.set_cons_zero, List.set_cons_succ, i64_w, i32_w]
      rfl
     refine pure_ (i := 11) (N := some 19) (v := ?_) (a' := ?_) #[true, true, true, true, true, true, true, true, true, true, true, true, false] rfl rfl (any_of HT_.out (by kernel_rfl)) (fun _ _ _ h => h) (Or.inl ⟨by rfl, ?_⟩) ?_ ?_
     rotate_left
     ·intro w'
      go_simp
      with_reducible rfl
     rotate_left
     ·simp only [Act.put, List.setIfInBounds_toArray, List.set_cons_zero, List.set_cons_succ, i64_w, i32_w]
      rfl
     refine pure_ (i := 12) (N := some 20) (v := ?_) (a' := ?_) #[true, true, true, true, true, true, true, true, true, true, true, true, true] rfl rfl (any_of HT_.out (by kernel_rfl)) (fun _ _ _ h => h) (Or.inl ⟨by rfl, ?_⟩) ?_ ?_
     rotate_left
     ·intro w'
      go_simp
      with_reducible rfl
     rotate_left
     ·simp only [Act.put, List.setIfInBounds_toArray, List.set_cons_zero, List.set_cons_succ, i64_w, i32_w]
      rfl
     refine done_ (done_of HT_.out (by kernel_rfl)) ?_
     go_upto_region 31 with (fail)
     go_cut [121] (fun v121 wc => ∃ (kq : Nat) (x121_92 : Bool), v121 = .bool x121_92 ∧ Aside0 (laws_FnExactTurnTail.j2 kq t492 t491 x121_92 = some r) ∧ Aside0 (kq ≤ kj62) ∧ Aside0 (Kd.R (Kd.int .i64) 3 wc w.heap.size (fun k_ => some k_ ≠ ((.slice Ao42 t487.length co42) : Value).ownBlock) (.slice Ao94 t471.length co94) t492) ∧ Aside0 (Kd.R (Kd.int .i64) 3 wc w.heap.size (fun k_ => some k_ ≠ ((.slice Ao94 t471.length co94) : Value).ownBlock) (.slice Ao42 t487.length co42) t487) ∧ Aside0 (wc.heap[gb443]? = some (.cells #[.int .i64 a0_0, .int .i64 a0_1, (.slice A0_2 l0_2.length c0_2)] 24 (0, 0))) ∧ Aside0 (wc.heap[gb444]? = some (.cells #[.int .i64 a1_0, .int .i64 a1_1] 26 (0, 0))) ∧ Aside0 (wc.heap[gb465]? = some (.cells #[.int .i64 t460, .int .i64 t461, (.slice Ao42 t487.length co42)] 30 (0, 0))) ∧ Aside0 (Below w.heap.size w wc))
     case first =>
      have H := HC93.out
      clear HC93
      replace H := Option.bind_eq_some_iff.mp H
      obtain ⟨t508, A1030, H⟩ := H
      replace H : (if t508 = true then (laws_FnExactTurnTail.j2 kj62 t492 t491 (t507 != t459)) else (laws_FnExactTurnTail.j2 kj62 t492 t491 true)) = some r := H
      have A103 := Aside0.mk A1030
      clear A1030
      by_cases c104 : t508 = true
      ·subst c104
       have H1 : (laws_FnExactTurnTail.j2 kj62 t492 t491 (t507 != t459)) = some r := by rw [if_pos rfl] at H; exact H
       clear H
       have H := H1
       clear H1
       have H' := Aside0.mk H
       clear H
       obtain ⟨Ao105, co105, eo105⟩ := Kd.R_slice HO506.out
       subst eo105
       obtain ⟨Ao106, co106, eo106⟩ := Kd.R_slice HO_10.out
       subst eo106
       go_wp2_with (first | ((with_reducible refine gate_callee (f := 18) rfl ?_); refine goesL_ (some 115) rfl rfl Try.func18 (by kernel_rfl) rfl #[.slice Ao105 t504.length co105, .slice Ao106 t456.length co106] rfl zt3 ?_; (with_reducible refine (laws_eqIntS.calls kj62 _ _ t504 _ _ t456 true _ ?side1 ?side2 ?side3 ?side4 A103.out).mono ?_); (case side1 => exact zt44); (case side2 => exact (Kd.R_reads' HO506.out).2.1); (case side3 => exact zt20); (case side4 => exact (Kd.R_reads' HO_10.out).2.1); rintro e w' ⟨rfl, ⟨nd, rfl⟩⟩; refine ⟨_, rfl, ?_⟩))
       go_meet
       case rel => exact ⟨_, ((t507 != t459)), zt34, H', ⟨by have := HJ22.out; have := HJ62.out; first | omega | exact Nat.le_refl _⟩, ⟨zt38⟩, ⟨zt37⟩, ⟨zt50⟩, ⟨zt49⟩, ⟨zt48⟩, ⟨zt1⟩⟩
      replace c104 := Bool.eq_false_iff.mpr c104
      subst c104
      have H1 : (laws_FnExactTurnTail.j2 kj62 t492 t491 true) = some r := by rw [if_neg (show ¬ (false = true) by decide)] at H; exact H
      clear H
      have H := H1
      clear H1
      have H' := Aside0.mk H
      clear H
      obtain ⟨Ao107, co107, eo107⟩ := Kd.R_slice HO506.out
      subst eo107
      obtain ⟨Ao108, co108, eo108⟩ := Kd.R_slice HO_10.out
      subst eo108
      go_wp2_with (first | ((with_reducible refine gate_callee (f := 18) rfl ?_); refine goesL_ (some 115) rfl rfl Try.func18 (by kernel_rfl) rfl #[.slice Ao107 t504.length co107, .slice Ao108 t456.length co108] rfl zt3 ?_; (with_reducible refine (laws_eqIntS.calls kj62 _ _ t504 _ _ t456 false _ ?side1 ?side2 ?side3 ?side4 A103.out).mono ?_); (case side1 => exact zt44); (case side2 => exact (Kd.R_reads' HO506.out).2.1); (case side3 => exact zt20); (case side4 => exact (Kd.R_reads' HO_10.out).2.1); rintro e w' ⟨rfl, ⟨nd, rfl⟩⟩; refine ⟨_, rfl, ?_⟩))
      go_meet
      case rel => exact ⟨_, (true), zt34, H', ⟨by have := HJ22.out; have := HJ62.out; first | omega | exact Nat.le_refl _⟩, ⟨zt38⟩, ⟨zt37⟩, ⟨zt50⟩, ⟨zt49⟩, ⟨zt48⟩, ⟨zt1⟩⟩
     case rest =>
      clear HC93
      try clear c1; try clear c2; try clear p2; try clear c3; try clear c4; try clear c5; try clear c5b0; try clear c5b1; try clear c6; try clear c7; try clear c8; try clear c9; try clear c9b0; try clear c10; try clear c12; try clear c14; try clear c15; try clear c16; try clear c18; try clear c19; try clear c20; try clear c21; try clear c22; try clear c23; try clear c24; try clear c26; try clear c39; try clear c40; try clear c49; try clear c54; try clear c57; try clear c60; try clear c70; try clear c71; try clear c75; try clear c75b0; try clear c77; try clear c82; try clear c85; try clear c85b0; try clear c88
      try clear c88b0; try clear c88b1; try clear c104; try clear hcz13_0; try clear hcz13_1; try clear hcz13_2; try clear hcz27_0; try clear hcz27_1; try clear hcz27_2; try clear hcz36_0; try clear hcz36_1; try clear hcz36_2; try clear hcz41_0; try clear hcz41_1; try clear hcz41_2; try clear hcz72_0; try clear hcz72_1; try clear hcz72_2; try clear hfz13_0; try clear hfz13_1; try clear hfz13_2; try clear hfz27_0; try clear hfz27_1; try clear hfz27_2; try clear hfz36_0; try clear hfz36_1; try clear hfz36_2; try clear hfz41_0; try clear hfz41_1; try clear hfz41_2; try clear hfz72_0; try clear hfz72_1; try clear hfz72_2
      try clear p2
      obtain ⟨kq, x121_92, rfl, HA, HJ92, HO_14, HO_466002, BK443, BK444, BK465, HB⟩ := hcut
      have hl14_92 := (Kd.R_reads' HO_14.out).1
      rw [hl14_92] at HO_14
      (try simp only [hl14_92])
      (try simp only [hl14_92] at BK443)
      (try simp only [hl14_92] at BK444)
      (try simp only [hl14_92] at BK465)
      (try simp only [hl14_92] at HO_466002)
      cases kq with
      | zero => exact absurd HA.out (by simp [laws_FnExactTurnTail.j2])
      | succ kj92 =>
       have H := HA.out
       clear HA
       simp only [laws_FnExactTurnTail.j2] at H
       by_cases c109 : x121_92 = true
       ·subst c109
        have H1 : (some false) = some r := by rw [if_pos rfl] at H; exact H
        clear H
        have H := H1
        clear H1
        obtain rfl := Option.some.inj H
        go_wp2
        go_ret
        exact ⟨zt16, zt1⟩
       replace c109 := Bool.eq_false_iff.mpr c109
       subst c109
       have H1 : ((laws_heldIntS.f kj92 t492 1).bind fun t509 => (if t509 < 0 then (some false) else (if t509 = t491 then (some true) else (some false)))) = some r := by rw [if_neg (show ¬ (false = true) by decide)] at H; exact H
       clear H
       have H := H1
       clear H1
       replace H := Option.bind_eq_some_iff.mp H
       obtain ⟨t509, A1100, H⟩ := H
       replace H : (if t509 < 0 then (some false) else (if t509 = t491 then (some true) else (some false))) = some r := H
       have A110 := Aside0.mk A1100
       clear A1100
       by_cases c111 : t509 < 0
       ·rw [if_pos c111] at H
        have c111b0 : decide (t509 < 0) = true := decide_eq_true c111
        clear c111
        obtain rfl := Option.some.inj H
        go_wp2_with (first | ((with_reducible refine gate_callee (f := 22) rfl ?_); refine goesL_ (some 124) rfl rfl Try.func22 (by kernel_rfl) rfl #[.slice Ao94 t492.length co94, .int .i64 1] rfl zt3 ?_; (with_reducible refine (laws_heldIntS.calls kj92 _ _ t492 1 t509 _ ?side1 ?side2 A110.out).mono ?_); (case side1 => exact zt13); (case side2 => exact (Kd.R_reads' HO_14.out).2.1); rintro e w' ⟨rfl, ⟨nd, rfl⟩⟩; refine ⟨_, rfl, ?_⟩))
        go_ret
        exact ⟨zt16, zt1⟩
       rw [if_neg c111] at H
       have c111b0 : decide (t509 < 0) = false := decide_eq_false c111
       clear c111
       by_cases c112 : t509 = t491
       rotate_left
       ·rw [if_neg c112] at H
        have c112b0 : (t509 == t491) = false := beq_eq_false_iff_ne.mpr c112
        have c112b1 : (t509 != t491) = true := bne_iff_ne.mpr c112
        obtain rfl := Option.some.inj H
        go_wp2_with (first | ((with_reducible refine gate_callee (f := 22) rfl ?_); refine goesL_ (some 124) rfl rfl Try.func22 (by kernel_rfl) rfl #[.slice Ao94 t492.length co94, .int .i64 1] rfl zt3 ?_; (with_reducible refine (laws_heldIntS.calls kj92 _ _ t492 1 t509 _ ?side1 ?side2 A110.out).mono ?_); (case side1 => exact zt13); (case side2 => exact (Kd.R_reads' HO_14.out).2.1); rintro e w' ⟨rfl, ⟨nd, rfl⟩⟩; refine ⟨_, rfl, ?_⟩))
        go_ret
        exact ⟨zt16, zt1⟩
       rw [if_pos c112] at H
       have c112b0 : (t509 == t491) = true := beq_iff_eq.mpr c112
       have c112b1 : (t509 != t491) = false := bne_eq_false_iff_eq.mpr c112
       clear c112
       obtain rfl := Option.some.inj H
       go_wp2_with (first | ((with_reducible refine gate_callee (f := 22) rfl ?_); refine goesL_ (some 124) rfl rfl Try.func22 (by kernel_rfl) rfl #[.slice Ao94 t492.length co94, .int .i64 1] rfl zt3 ?_; (with_reducible refine (laws_heldIntS.calls kj92 _ _ t492 1 t509 _ ?side1 ?side2 A110.out).mono ?_); (case side1 => exact zt13); (case side2 => exact (Kd.R_reads' HO_14.out).2.1); rintro e w' ⟨rfl, ⟨nd, rfl⟩⟩; refine ⟨_, rfl, ?_⟩))
       go_ret
       exact ⟨zt16, zt1⟩

end Go.Proofs.Ytbecdckdbeoomaa.Q

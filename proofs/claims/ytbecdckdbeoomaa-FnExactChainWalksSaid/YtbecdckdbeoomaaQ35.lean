/- Written by a program of this session: functions of the translation as plain Lean functions, each with a proof that the call does what the plain function says; the conditions stand in each theorem. -/
import Derived.Test.YtbecdckdbeoomaaQ0
import Derived.Test.YtbecdckdbeoomaaQ1
import Derived.Test.YtbecdckdbeoomaaQ2
import Derived.Test.YtbecdckdbeoomaaQ5
import Derived.Test.YtbecdckdbeoomaaQ16
import Derived.Test.YtbecdckdbeoomaaQ34
namespace Go.Proofs.Ytbecdckdbeoomaa.Q
open Go.RowKit Go.Proofs.YtbecdckdbeoomaaW.PrintWords Go.Proofs.YtbecdckdbeoomaaW.PrintLast Go.Proofs.YtbecdckdbeoomaaW.PrintMore
attribute [local go_sem] max2_int min2_int max_two min_two max_three min_three max_four min_four   -- for this text's walks alone
set_option linter.unusedVariables false
set_option linter.unusedSimpArgs false

theorem zaj1 {p : Prop} (h : p := by repeat (first | (with_reducible first | exact HB.out | apply below_alloc | apply pw_below_drewN | apply below_drew1 | refine below_set ?_ GE831.out | refine below_set ?_ GE832.out | refine below_set ?_ GE856.out) | exact HB.out)) : p := h
theorem zaj2 {p : Prop} (h : p := by (try simp only [List.map_toArray, List.map_cons, List.map_nil]); first | done | rfl | (simp only [List.length_drop, List.length_take]; rfl)) : p := h
theorem zaj3 {p : Prop} (h : p := by first | exact BK831.out | ((with_reducible repeat (first | refine blk_drewN ?_ _ | refine blk_drew ?_ | refine blk_alloc ?_ _)); exact BK831.out)) : p := h
theorem zaj4 {p : Prop} (h : p := by first | exact BK832.out | ((with_reducible repeat (first | refine blk_drewN ?_ _ | refine blk_drew ?_ | refine blk_alloc ?_ _)); exact BK832.out)) : p := h
theorem zaj5 {p : Prop} (h : p := by first | exact BK856.out | ((with_reducible repeat (first | refine blk_drewN ?_ _ | refine blk_drew ?_ | refine blk_alloc ?_ _)); exact BK856.out)) : p := h
theorem zaj6 {p : Prop} (h : p := by repeat (first | (with_reducible first | exact HB.out | apply below_alloc | apply pw_below_drewN | apply below_drew1 | refine below_set ?_ GE831.out | refine below_set ?_ GE832.out) | exact HB.out)) : p := h
theorem zaj7 {p : Prop} (h : p := by first | exact HO_857002.out | ((with_reducible repeat (first | apply Kd.R_alloc | apply Kd.R_drewN | apply Kd.R_drew)); exact HO_857002.out)) : p := h
theorem zaj8 {p : Prop} (h : p := by first | exact HO_15.out | ((with_reducible repeat (first | apply Kd.R_alloc | apply Kd.R_drewN | apply Kd.R_drew)); exact HO_15.out)) : p := h
theorem zaj9 {p : Prop} (h : p := by first | exact HO_10.out | ((with_reducible repeat (first | apply Kd.R_alloc | apply Kd.R_drewN | apply Kd.R_drew)); exact HO_10.out)) : p := h
theorem zaj10 {p : Prop} (h : p := by first | exact HO_14.out | ((with_reducible repeat (first | apply Kd.R_alloc | apply Kd.R_drewN | apply Kd.R_drew)); exact HO_14.out)) : p := h
theorem zaj11 {p : Prop} (h : p := by first | exact HO_13.out | ((with_reducible repeat (first | apply Kd.R_alloc | apply Kd.R_drewN | apply Kd.R_drew)); exact HO_13.out)) : p := h
theorem zaj12 {p : Prop} (h : p := by repeat (first | (with_reducible first | exact HB.out | apply below_alloc | apply pw_below_drewN | apply below_drew1 | refine below_set ?_ GE831.out) | exact HB.out)) : p := h
theorem zaj13 {p : Prop} (h : p := by repeat (first | (with_reducible first | exact HB.out | apply below_alloc | apply pw_below_drewN | apply below_drew1) | exact HB.out)) : p := h
theorem zaj14 {p : Prop} (h : p := by first | exact HO838.out | ((with_reducible repeat (first | apply Kd.R_alloc | apply Kd.R_drewN | apply Kd.R_drew)); exact HO838.out)) : p := h
theorem zaj15 {p : Prop} (h : p := by repeat (first | exact (Kd.C_below HR0_2.out HB.out) | (with_reducible refine Kd.C_alloc ?_ _) | (with_reducible refine Kd.C_drewN ?_ _) | (with_reducible refine Kd.C_drew ?_))) : p := h
theorem zaj16 {p : Prop} (h : p := by first | exact HO874.out | ((with_reducible repeat (first | apply Kd.R_alloc | apply Kd.R_drewN | apply Kd.R_drew)); exact HO874.out)) : p := h
theorem zaj17 {p : Prop} (h : p := by first | rfl | (simp [errW_none, errW_some] <;> rfl) | (simp [*, errW_none, errW_some] <;> rfl)) : p := h
theorem zaj18 {p : Prop} (h : p := by repeat (first | exact (Kd.R_reads' HO_15.out).2.2 | (with_reducible refine Kd.C_alloc ?_ _) | (with_reducible refine Kd.C_drewN ?_ _) | (with_reducible refine Kd.C_drew ?_))) : p := h
theorem zaj19 {p : Prop} (h : p := by first | exact HO843.out | ((with_reducible repeat (first | apply Kd.R_alloc | apply Kd.R_drewN | apply Kd.R_drew)); exact HO843.out)) : p := h
theorem zaj20 {p : Prop} (h : p := by first | exact HO846.out | ((with_reducible repeat (first | apply Kd.R_alloc | apply Kd.R_drewN | apply Kd.R_drew)); exact HO846.out)) : p := h
theorem zaj21 {p : Prop} (h : p := by first | exact HO849.out | ((with_reducible repeat (first | apply Kd.R_alloc | apply Kd.R_drewN | apply Kd.R_drew)); exact HO849.out)) : p := h
theorem zaj22 {p : Prop} (h : p := by repeat (first | exact (Kd.C_below HR2.out HB.out) | (with_reducible refine Kd.C_alloc ?_ _) | (with_reducible refine Kd.C_drewN ?_ _) | (with_reducible refine Kd.C_drew ?_))) : p := h
theorem zaj23 {p : Prop} (h : p := by first | exact HO898.out | ((with_reducible repeat (first | apply Kd.R_alloc | apply Kd.R_drewN | apply Kd.R_drew)); exact HO898.out)) : p := h
theorem zaj24 {p : Prop} (h : p := by first | exact HO855.out | ((with_reducible repeat (first | apply Kd.R_alloc | apply Kd.R_drewN | apply Kd.R_drew)); exact HO855.out)) : p := h
theorem zaj25 {p : Prop} (h : p := by repeat (first | exact (Kd.R_reads' HO_857002.out).2.2 | (with_reducible refine Kd.C_alloc ?_ _) | (with_reducible refine Kd.C_drewN ?_ _) | (with_reducible refine Kd.C_drew ?_))) : p := h
theorem zaj26 {p : Prop} (h : p := by repeat (first | exact (Kd.R_reads' HO_10.out).2.2 | (with_reducible refine Kd.C_alloc ?_ _) | (with_reducible refine Kd.C_drewN ?_ _) | (with_reducible refine Kd.C_drew ?_))) : p := h
theorem zaj27 {p : Prop} (h : p := by repeat (first | exact (Kd.R_reads' HO874.out).2.2 | (with_reducible refine Kd.C_alloc ?_ _) | (with_reducible refine Kd.C_drewN ?_ _) | (with_reducible refine Kd.C_drew ?_))) : p := h
theorem zaj28 {p : Prop} (h : p := by (try simp only [List.map_toArray, List.map_cons, List.map_nil]); first | done | (rw [show t892.length = t865.length from (Kd.R_reads' HO_15.out).1.symm] <;> rfl) | rfl | (simp only [List.length_drop, List.length_take]; rfl)) : p := h
theorem zaj29 {p : Prop} (h : p := by (with_reducible repeat (first | apply Kd.R_alloc | apply Kd.R_drewN | apply Kd.R_drew)); exact (Kd.R_mono (Kd.R_far (p := ⟨gb856, 2, none⟩) (Kd.R_far (p := ⟨gb856, 1, none⟩) (Kd.R_far (p := ⟨gb856, 0, none⟩) (Kd.R_types HO855.out BK856.out (by decide)) (fun _ hk => hk.2) (.int .i64 t851)) (fun _ hk => hk.2) (.int .i64 t852)) (fun _ hk => hk.2) (.slice Ao49 t853.length co49)) (fun _ h_ => h_.1))) : p := h
theorem zaj30 {p : Prop} (h : p := by (with_reducible repeat (first | apply Kd.R_alloc | apply Kd.R_drewN | apply Kd.R_drew)); exact (Kd.R_mono (Kd.R_far (p := ⟨gb856, 2, none⟩) (Kd.R_far (p := ⟨gb856, 1, none⟩) (Kd.R_far (p := ⟨gb856, 0, none⟩) (Kd.R_types HO849.out BK856.out (by decide)) (fun _ hk => hk.2) (.int .i64 t851)) (fun _ hk => hk.2) (.int .i64 t852)) (fun _ hk => hk.2) (.slice Ao49 t853.length co49)) (fun _ h_ => h_.1))) : p := h
theorem zaj31 {p : Prop} (h : p := by (with_reducible repeat (first | apply Kd.R_alloc | apply Kd.R_drewN | apply Kd.R_drew)); exact (Kd.R_mono (Kd.R_far (p := ⟨gb856, 2, none⟩) (Kd.R_far (p := ⟨gb856, 1, none⟩) (Kd.R_far (p := ⟨gb856, 0, none⟩) (Kd.R_types HO846.out BK856.out (by decide)) (fun _ hk => hk.2) (.int .i64 t851)) (fun _ hk => hk.2) (.int .i64 t852)) (fun _ hk => hk.2) (.slice Ao49 t853.length co49)) (fun _ h_ => h_.1))) : p := h
theorem zaj32 {p : Prop} (h : p := by (with_reducible repeat (first | apply Kd.R_alloc | apply Kd.R_drewN | apply Kd.R_drew)); exact (Kd.R_mono (Kd.R_far (p := ⟨gb856, 2, none⟩) (Kd.R_far (p := ⟨gb856, 1, none⟩) (Kd.R_far (p := ⟨gb856, 0, none⟩) (Kd.R_types HO843.out BK856.out (by decide)) (fun _ hk => hk.2) (.int .i64 t851)) (fun _ hk => hk.2) (.int .i64 t852)) (fun _ hk => hk.2) (.slice Ao49 t853.length co49)) (fun _ h_ => h_.1))) : p := h
theorem zaj33 {p : Prop} (h : p := by (with_reducible repeat (first | apply Kd.R_alloc | apply Kd.R_drewN | apply Kd.R_drew)); exact (Kd.R_mono (Kd.R_far (p := ⟨gb856, 2, none⟩) (Kd.R_far (p := ⟨gb856, 1, none⟩) (Kd.R_far (p := ⟨gb856, 0, none⟩) (Kd.R_types HO838.out BK856.out (by decide)) (fun _ hk => hk.2) (.int .i64 t851)) (fun _ hk => hk.2) (.int .i64 t852)) (fun _ hk => hk.2) (.slice Ao49 t853.length co49)) (fun _ h_ => h_.1))) : p := h
theorem zaj34 {p : Prop} (h : p := by first | exact HO859.out | ((with_reducible repeat (first | apply Kd.R_alloc | apply Kd.R_drewN | apply Kd.R_drew)); exact HO859.out)) : p := h
theorem zaj35 {p : Prop} (h : p := by repeat (first | exact (Kd.R_reads' HO_13.out).2.2 | (with_reducible refine Kd.C_alloc ?_ _) | (with_reducible refine Kd.C_drewN ?_ _) | (with_reducible refine Kd.C_drew ?_))) : p := h
theorem zaj36 {p : Prop} (h : p := by repeat (first | exact (Kd.R_reads' HO878.out).2.2 | (with_reducible refine Kd.C_alloc ?_ _) | (with_reducible refine Kd.C_drewN ?_ _) | (with_reducible refine Kd.C_drew ?_))) : p := h
theorem zaj37 {p : Prop} (h : p := by repeat (first | exact (Kd.C_below HR3.out HB.out) | (with_reducible refine Kd.C_alloc ?_ _) | (with_reducible refine Kd.C_drewN ?_ _) | (with_reducible refine Kd.C_drew ?_))) : p := h
theorem zaj38 {p : Prop} (h : p := by (with_reducible repeat (first | apply Kd.R_alloc | apply Kd.R_drewN | apply Kd.R_drew)); exact Kd.R_mono HO_857002.out (fun _ hk => ⟨hk.1, hk.2.2.2.1⟩)) : p := h
theorem zaj39 {p : Prop} (h : p := by (with_reducible repeat (first | apply Kd.R_alloc | apply Kd.R_drewN | apply Kd.R_drew)); exact Kd.R_mono HO_10.out (fun _ hk => ⟨hk.2.2.1, hk.2.2.2.1⟩)) : p := h
theorem zaj40 {p : Prop} (h : p := by first | exact HO903.out | ((with_reducible repeat (first | apply Kd.R_alloc | apply Kd.R_drewN | apply Kd.R_drew)); exact HO903.out)) : p := h
theorem zaj41 {p : Prop} (h : p := by first | exact HO878.out | ((with_reducible repeat (first | apply Kd.R_alloc | apply Kd.R_drewN | apply Kd.R_drew)); exact HO878.out)) : p := h
theorem zaj42 {p : Prop} (h : p := by (with_reducible repeat (first | apply Kd.R_alloc | apply Kd.R_drewN | apply Kd.R_drew)); exact Kd.R_mono HO_15.out (fun _ hk => ⟨hk.1, hk.2.2.2.1⟩)) : p := h
theorem zaj43 {p : Prop} (h : p := by first | rfl | (simp; done) | (simp [*]; done)) : p := h
theorem zaj44 {p : Prop} (h : p := by first | exact HO862.out | ((with_reducible repeat (first | apply Kd.R_alloc | apply Kd.R_drewN | apply Kd.R_drew)); exact HO862.out)) : p := h
theorem zaj45 {p : Prop} (h : p := by rw [show t892.length = t865.length from (Kd.R_reads' HO_15.out).1.symm]; exact (Kd.R_reads' HO_15.out).2.1) : p := h
theorem zaj46 {p : Prop} (h : p := by (with_reducible repeat (first | apply Kd.R_alloc | apply Kd.R_drewN | apply Kd.R_drew)); exact Kd.R_mono HO867.out (fun _ hk => ⟨hk.1.1.1.2, ⟨hk.1.2, ⟨hk.2, hk.1.1.2⟩⟩⟩)) : p := h
theorem zaj47 {p : Prop} (h : p := by (with_reducible repeat (first | apply Kd.R_alloc | apply Kd.R_drewN | apply Kd.R_drew)); exact Kd.R_mono HO862.out (fun _ hk => ⟨hk.1.1.1.2, ⟨hk.1.2, ⟨hk.2, hk.1.1.2⟩⟩⟩)) : p := h
theorem zaj48 {p : Prop} (h : p := by (with_reducible repeat (first | apply Kd.R_alloc | apply Kd.R_drewN | apply Kd.R_drew)); exact Kd.R_mono HO859.out (fun _ hk => ⟨hk.1.1.1.2, ⟨hk.1.2, ⟨hk.2, hk.1.1.2⟩⟩⟩)) : p := h
theorem zaj49 {p : Prop} (h : p := by (with_reducible repeat (first | apply Kd.R_alloc | apply Kd.R_drewN | apply Kd.R_drew)); exact Kd.R_mono HO855.out (fun _ hk => ⟨hk.1.1.1.2, ⟨hk.1.1.2, ⟨hk.1.2, hk.2⟩⟩⟩)) : p := h
theorem zaj50 {p : Prop} (h : p := by (with_reducible repeat (first | apply Kd.R_alloc | apply Kd.R_drewN | apply Kd.R_drew)); exact Kd.R_mono HO849.out (fun _ hk => ⟨hk.1.1.2, ⟨hk.1.2, ⟨hk.2, hk.1.1.1.2⟩⟩⟩)) : p := h
theorem zaj51 {p : Prop} (h : p := by (try simp only [hl857002_75]); (with_reducible repeat (first | apply Kd.R_alloc | apply Kd.R_drewN | apply Kd.R_drew)); exact Kd.R_mono HO_857002.out (fun _ hk => hk.1.1.1.1.2)) : p := h
theorem zaj52 {p : Prop} (h : p := by (try simp only [hl857002_75]); (with_reducible repeat (first | apply Kd.R_alloc | apply Kd.R_drewN | apply Kd.R_drew)); exact Kd.R_mono HO_15.out (fun _ hk => hk.1.1.1.1.2)) : p := h
theorem zaj53 {p : Prop} (h : p := by repeat (first | exact (Kd.R_reads' HO_14.out).2.2 | (with_reducible refine Kd.C_alloc ?_ _) | (with_reducible refine Kd.C_drewN ?_ _) | (with_reducible refine Kd.C_drew ?_))) : p := h
theorem zaj54 {p : Prop} (h : p := by repeat (first | exact (Kd.R_reads' HO909.out).2.2 | (with_reducible refine Kd.C_alloc ?_ _) | (with_reducible refine Kd.C_drewN ?_ _) | (with_reducible refine Kd.C_drew ?_))) : p := h
theorem zaj55 {p : Prop} (h : p := by repeat (first | exact (Kd.R_reads' HO882.out).2.2 | (with_reducible refine Kd.C_alloc ?_ _) | (with_reducible refine Kd.C_drewN ?_ _) | (with_reducible refine Kd.C_drew ?_))) : p := h
theorem zaj56 {p : Prop} (h : p := by repeat (first | exact (Kd.R_reads' HO867.out).2.2 | (with_reducible refine Kd.C_alloc ?_ _) | (with_reducible refine Kd.C_drewN ?_ _) | (with_reducible refine Kd.C_drew ?_))) : p := h
theorem zaj57 {p : Prop} (h : p := by repeat (first | exact (Kd.R_reads' HO849.out).2.2 | (with_reducible refine Kd.C_alloc ?_ _) | (with_reducible refine Kd.C_drewN ?_ _) | (with_reducible refine Kd.C_drew ?_))) : p := h
theorem zaj58 {p : Prop} (h : p := by (try simp only [hl857002_75]); first | exact BK856.out | ((with_reducible repeat (first | refine blk_drewN ?_ _ | refine blk_drew ?_ | refine blk_alloc ?_ _)); exact BK856.out)) : p := h
theorem zaj59 {p : Prop} (h : p := by (try simp only [hl857002_75]); first | exact BK832.out | ((with_reducible repeat (first | refine blk_drewN ?_ _ | refine blk_drew ?_ | refine blk_alloc ?_ _)); exact BK832.out)) : p := h
theorem zaj60 {p : Prop} (h : p := by (try simp only [hl857002_75]); first | exact BK831.out | ((with_reducible repeat (first | refine blk_drewN ?_ _ | refine blk_drew ?_ | refine blk_alloc ?_ _)); exact BK831.out)) : p := h
theorem zaj61 {p : Prop} (h : p := by rw [hg]; exact Nat.ne_of_lt (blk_lt (g := gb831) (o := .cells #[.int .i64 a0_0, .int .i64 a0_1, .slice A0_2 l0_2.length c0_2] 24 (0, 0)) zaj3)) : p := h
theorem zaj62 {p : Prop} (h : p := by rw [hg]; exact Nat.ne_of_gt (blk_lt (g := gb831) (o := .cells #[.int .i64 a0_0, .int .i64 a0_1, .slice A0_2 l0_2.length c0_2] 24 (0, 0)) zaj3)) : p := h
theorem zaj63 {p : Prop} (h : p := by rw [hg]; exact (below_size zaj13)) : p := h
theorem zaj64 {p : Prop} (h : p := by rw [hg]; exact (below_size zaj12)) : p := h
theorem zaj65 {p : Prop} (h : p := by repeat (first | exact (Kd.C_below HR3.out zaj1) | (with_reducible refine Kd.C_alloc ?_ _) | (with_reducible refine Kd.C_drewN ?_ _) | (with_reducible refine Kd.C_drew ?_))) : p := h
/-! ### laws_FnExactChainWalks: function 7 -/
mutual
def laws_FnExactChainWalks.j0 : Nat → List Int → List Int → List Int → Bool → List Int → List Int → List Int → Bool → Bool → Int → Int → List Int → Int → Int → Int → Int → List Int → Option (Bool)
 | 0, _, _, _, _, _, _, _, _, _, _, _, _, _, _, _, _, _ => none
 | k + 1, x2, x3, x10, x11, x13, x14, x15, x16, x68, x832000, x832001, x832002, x833000, x833001, x857000, x857001, x857002 => if x68 = true then (some false) else ((laws_toBoard.f k x832000 x832001 x832002).bind fun bt870 => ((laws_eqBoard.f k x857000 x857001 x857002 bt870.1 bt870.2.1 bt870.2.2).bind fun t875 => (if t875 = true then ((laws_toIntS.f k x2).bind fun t876 => ((laws_eqIntS.f k x13 t876).bind fun t879 => (if t879 = true then ((laws_toIntS.f k x3).bind fun t880 => ((laws_eqIntS.f k x14 t880).bind fun t883 => (if t883 = true then ((laws_markBoard.f k x857000 x857001 x857002 1).bind fun bt884 => ((laws_markIntS.f k x13 bt884.1).bind fun bt886 => ((laws_markIntS.f k x14 bt886.1).bind fun bt888 => (if bt888.1 < 0 then (laws_FnExactChainWalks.j1 k x2 x3 x10 x11 x15 true x832000 x832001 x832002 x833000 x833001) else ((laws_eqIntS.f k x15 x10).bind fun t890 => (if t890 = true then (laws_FnExactChainWalks.j1 k x2 x3 x10 x11 x15 (x16 != x11) x832000 x832001 x832002 x833000 x833001) else (laws_FnExactChainWalks.j1 k x2 x3 x10 x11 x15 true x832000 x832001 x832002 x833000 x833001))))))) else (some false)))) else (some false)))) else (some false))))
def laws_FnExactChainWalks.j1 : Nat → List Int → List Int → List Int → Bool → List Int → Bool → Int → Int → List Int → Int → Int → Option (Bool)
 | 0, _, _, _, _, _, _, _, _, _, _, _ => none
 | k + 1, x2, x3, x10, x11, x15, x105, x832000, x832001, x832002, x833000, x833001 => if x105 = true then (some false) else ((laws_markIntS.f k x15 1).bind fun bt891 => ((laws_heldIntS.f k bt891.2 1).bind fun t893 => (if t893 < 0 then (some false) else (if t893 = bt891.1 then ((laws_toBoard.f k x832000 x832001 x832002).bind fun bt894 => ((laws_toLeaper.f x833000 x833001).bind fun bt899 => ((laws_toIntS.f k x2).bind fun t901 => ((laws_toIntS.f k x3).bind fun t904 => ((impl_ChainWalks.f k bt894.1 bt894.2.1 bt894.2.2 bt899.1 bt899.2 t901 t904).bind fun bt907 => ((laws_eqIntS.f k bt907.1 x10).bind fun t911 => (if t911 = true then (laws_FnExactChainWalks.j2 k bt891.2 bt891.1 (bt907.2 != x11)) else (laws_FnExactChainWalks.j2 k bt891.2 bt891.1 true)))))))) else (some false)))))
def laws_FnExactChainWalks.j2 : Nat → List Int → Int → Bool → Option (Bool)
 | 0, _, _, _ => none
 | k + 1, x15, x18, x137 => if x137 = true then (some false) else ((laws_heldIntS.f k x15 1).bind fun t912 => (if t912 < 0 then (some false) else (if t912 = x18 then (some true) else (some false))))
end
def laws_FnExactChainWalks.f (k : Nat) (a0_0 : Int) (a0_1 : Int) (l0_2 : List Int) (a1_0 : Int) (a1_1 : Int) (l2 : List Int) (l3 : List Int) : Option (Bool) := if (l2.length : Int) > 1048576 then (some true) else (if (l3.length : Int) > 1048576 then (some true) else ((laws_szBoard.f a0_0 a0_1 l0_2 1048576).bind fun t833 => (if t833 < 0 then (some true) else ((laws_toBoard.f k a0_0 a0_1 l0_2).bind fun bt834 => ((laws_toLeaper.f a1_0 a1_1).bind fun bt839 => ((laws_toIntS.f k l2).bind fun t841 => ((laws_toIntS.f k l3).bind fun t844 => ((spec_ChainWalks.f k bt834.1 bt834.2.1 bt834.2.2 bt839.1 bt839.2 t841 t844).bind fun bt847 => ((laws_toBoard.f k a0_0 a0_1 l0_2).bind fun bt851 => ((laws_toIntS.f k l2).bind fun t857 => ((laws_toIntS.f k l3).bind fun t860 => ((laws_toLeaper.f a1_0 a1_1).bind fun bt863 => ((impl_ChainWalks.f k bt851.1 bt851.2.1 bt851.2.2 bt863.1 bt863.2 t857 t860).bind fun bt865 => ((laws_eqIntS.f k bt865.1 bt847.1).bind fun t869 => (if t869 = true then (laws_FnExactChainWalks.j0 k l2 l3 bt847.1 bt847.2 t857 t860 bt865.1 bt865.2 (bt865.2 != bt847.2) a0_0 a0_1 l0_2 a1_0 a1_1 bt851.1 bt851.2.1 bt851.2.2) else (laws_FnExactChainWalks.j0 k l2 l3 bt847.1 bt847.2 t857 t860 bt865.1 bt865.2 true a0_0 a0_1 l0_2 a1_0 a1_1 bt851.1 bt851.2.1 bt851.2.2))))))))))))))))
def laws_FnExactChainWalks.T9 : Bool × List (List Nat × List Nat) := (true, [([], []), ([0], [0]), ([], []), ([2, 1], [2]), ([], []), ([4, 3], [4]), ([], []), ([6, 5], [6]), ([1, 3, 5, 7, 7], [1, 3, 5, 7]), ([8], [8]), ([9], [9]), ([9], [9]), ([10, 8, 0, 1, 2, 3, 4, 5, 6, 7, 8, 9, 10], [10]), ([11, 12, 0, 1, 2, 3, 4, 5, 6, 7, 8, 9, 10, 11, 12], [11])])
def laws_FnExactChainWalks.B9 : List Nat := [0, 1, 0, 7, 0, 31, 0, 127, 255, 511, 1023, 1023, 2047, 8191]
theorem laws_FnExactChainWalks.tab9 : rtab .any (opsOf Try.f7 9) = laws_FnExactChainWalks.T9 := by kernel_rfl
theorem laws_FnExactChainWalks.bits9 : waitsOk laws_FnExactChainWalks.T9.2 laws_FnExactChainWalks.B9 = true := by kernel_rfl
def laws_FnExactChainWalks.T13 : Bool × List (List Nat × List Nat) := (true, [([], []), ([], []), ([1], [1]), ([], []), ([], []), ([0, 2, 3, 4, 2], [0, 2, 3, 4]), ([5], [5]), ([6], [6]), ([6], [6]), ([7, 5, 0, 1, 2, 3, 4, 5, 6, 7], [7]), ([8, 9, 0, 1, 2, 3, 4, 5, 6, 7, 8, 9], [8])])
def laws_FnExactChainWalks.B13 : List Nat := [0, 0, 2, 0, 0, 31, 63, 127, 127, 255, 1023]
theorem laws_FnExactChainWalks.tab13 : rtab .any (opsOf Try.f7 13) = laws_FnExactChainWalks.T13 := by kernel_rfl
theorem laws_FnExactChainWalks.bits13 : waitsOk laws_FnExactChainWalks.T13.2 laws_FnExactChainWalks.B13 = true := by kernel_rfl
def laws_FnExactChainWalks.T36 : Bool × List (List Nat × List Nat) := (true, [([], []), ([0], [0]), ([], []), ([2, 1], [2]), ([], []), ([4, 3], [4]), ([], []), ([6, 5], [6]), ([1, 3, 5, 7, 7], [1, 3, 5, 7]), ([8], [8]), ([9], [9]), ([9], [9]), ([10, 8, 0, 1, 2, 3, 4, 5, 6, 7, 8, 9, 10], [10]), ([11, 12, 0, 1, 2, 3, 4, 5, 6, 7, 8, 9, 10, 11, 12], [11])])
def laws_FnExactChainWalks.B36 : List Nat := [0, 1, 0, 7, 0, 31, 0, 127, 255, 511, 1023, 1023, 2047, 8191]
theorem laws_FnExactChainWalks.tab36 : rtab .any (opsOf Try.f7 36) = laws_FnExactChainWalks.T36 := by kernel_rfl
theorem laws_FnExactChainWalks.bits36 : waitsOk laws_FnExactChainWalks.T36.2 laws_FnExactChainWalks.B36 = true := by kernel_rfl
set_option maxHeartbeats 8000000 in
set_option maxRecDepth 100000 in
theorem laws_FnExactChainWalks.calls (k : Nat) (a0_0 : Int) (a0_1 : Int) (A0_2 : Option Addr) (c0_2 : Nat) (l0_2 : List Int) (a1_0 : Int) (a1_1 : Int) (A2 : Option Addr) (c2 : Nat) (l2 : List Int) (A3 : Option Addr) (c3 : Nat) (l3 : List Int) (r : Bool) (w : World) (hr0_2 : Kd.C (Kd.int .i64) w A0_2 l0_2.length l0_2) (hc0_2 : l0_2.length ≤ c0_2) (hr2 : Kd.C (Kd.int .i64) w A2 l2.length l2) (hc2 : l2.length ≤ c2) (hr3 : Kd.C (Kd.int .i64) w A3 l3.length l3) (hc3 : l3.length ≤ c3) (h : laws_FnExactChainWalks.f k a0_0 a0_1 l0_2 a1_0 a1_1 l2 l3 = some r) :
  Calls Try.prog 7 #[.agg #[.int .i64 a0_0, .int .i64 a0_1, .slice A0_2 l0_2.length c0_2], .agg #[.int .i64 a1_0, .int .i64 a1_1], .slice A2 l2.length c2, .slice A3 l3.length c3] w fun e w' => e = .returned (.bool r) ∧ Below w.heap.size w w' := by
 have hu24 := Try.underlying24
 have hu26 := Try.underlying26
 have hu30 := Try.underlying30
 have HR0_2 := Aside0.mk hr0_2
 have HC0_2 := Aside0.mk hc0_2
 clear hr0_2 hc0_2
 have HR2 := Aside0.mk hr2
 have HC2 := Aside0.mk hc2
 clear hr2 hc2
 have HR3 := Aside0.mk hr3
 have HC3 := Aside0.mk hc3
 clear hr3 hc3
 have HB := Aside0.mk (Below.refl w.heap.size w)
 have H : (if (l2.length : Int) > 1048576 then (some true) else (if (l3.length : Int) > 1048576 then (some true) else ((laws_szBoard.f a0_0 a0_1 l0_2 1048576).bind fun t833 => (if t833 < 0 then (some true) else ((laws_toBoard.f k a0_0 a0_1 l0_2).bind fun bt834 => ((laws_toLeaper.f a1_0 a1_1).bind fun bt839 => ((laws_toIntS.f k l2).bind fun t841 => ((laws_toIntS.f k l3).bind fun t844 => ((spec_ChainWalks.f k bt834.1 bt834.2.1 bt834.2.2 bt839.1 bt839.2 t841 t844).bind fun bt847 => ((laws_toBoard.f k a0_0 a0_1 l0_2).bind fun bt851 => ((laws_toIntS.f k l2).bind fun t857 => ((laws_toIntS.f k l3).bind fun t860 => ((laws_toLeaper.f a1_0 a1_1).bind fun bt863 => ((impl_ChainWalks.f k bt851.1 bt851.2.1 bt851.2.2 bt863.1 bt863.2 t857 t860).bind fun bt865 => ((laws_eqIntS.f k bt865.1 bt847.1).bind fun t869 => (if t869 = true then (laws_FnExactChainWalks.j0 k l2 l3 bt847.1 bt847.2 t857 t860 bt865.1 bt865.2 (bt865.2 != bt847.2) a0_0 a0_1 l0_2 a1_0 a1_1 bt851.1 bt851.2.1 bt851.2.2) else (laws_FnExactChainWalks.j0 k l2 l3 bt847.1 bt847.2 t857 t860 bt865.1 bt865.2 true a0_0 a0_1 l0_2 a1_0 a1_1 bt851.1 bt851.2.1 bt851.2.2))))))))))))))))) = some r := h
 clear h
 by_cases c5 : (l2.length : Int) > 1048576
 ·rw [if_pos c5] at H
  have c5b0 : decide (1048576 < (l2.length : Int)) = true := decide_eq_true c5
  have c5b1 : decide (1048576 < l2.length) = true := decide_eq_true (by omega)
  clear c5
  obtain rfl := Option.some.inj H
  go_enter Try.func7, Try.ntmps7
  go_wp2_with (first | ((with_reducible refine gate_dst (N := 4) rfl ?_); refine box_event ?hg (N := 4) ?hd (cs := #[.int .i64 a0_0, .int .i64 a0_1, .slice A0_2 l0_2.length c0_2]) (t := 24) ?hr ?_; (case hd => rfl); (case hg => rfl); (case hr => first | (go_simp; done) | (go_simp; rfl)); intro gb831 hg w6 hbox hb; have n0_ := Aside0.mk (below_step zaj13 hb); have n1_ := Aside0.mk (hbox); have n2_ := Aside0.mk ((zaj63 : w.heap.size ≤ gb831)); have n3_ := Aside0.mk ((zaj63 : w.heap.size ≤ gb831)); clear HB; have HB := n0_; have BK831 := n1_; have GW831 := n2_; have GE831 := n3_; clear n0_ n1_ n2_ n3_; clear hb hbox hg) | ((with_reducible refine gate_dst (N := 5) rfl ?_); refine box_event ?hg (N := 5) ?hd (cs := #[.int .i64 a1_0, .int .i64 a1_1]) (t := 26) ?hr ?_; (case hd => rfl); (case hg => rfl); (case hr => first | (go_simp; done) | (go_simp; rfl)); intro gb832 hg w7 hbox hb; have n0_ := Aside0.mk (blk_below (g := gb831) (o := .cells #[.int .i64 a0_0, .int .i64 a0_1, .slice A0_2 l0_2.length c0_2] 24 (0, 0)) zaj3 hb); have n1_ := Aside0.mk (below_step zaj12 hb); have n2_ := Aside0.mk (hbox); have n3_ := Aside0.mk ((zaj64 : w.heap.size ≤ gb832)); have n4_ := Aside0.mk ((zaj64 : w.heap.size ≤ gb832)); have n5_ := Aside0.mk ((zaj61 : gb831 ≠ gb832)); have n6_ := Aside0.mk ((zaj62 : gb832 ≠ gb831)); clear BK831; clear HB; have BK831 := n0_; have HB := n1_; have BK832 := n2_; have GW832 := n3_; have GE832 := n4_; have NB831_832 := n5_; have NB832_831 := n6_; clear n0_ n1_ n2_ n3_ n4_ n5_ n6_; clear hb hbox hg))
  go_ret
  exact ⟨zaj17, zaj6⟩
 rw [if_neg c5] at H
 have c5b0 : decide (1048576 < (l2.length : Int)) = false := decide_eq_false c5
 have c5b1 : decide (1048576 < l2.length) = false := decide_eq_false (by omega)
 clear c5
 by_cases c8 : (l3.length : Int) > 1048576
 ·rw [if_pos c8] at H
  have c8b0 : decide (1048576 < (l3.length : Int)) = true := decide_eq_true c8
  have c8b1 : decide (1048576 < l3.length) = true := decide_eq_true (by omega)
  clear c8
  obtain rfl := Option.some.inj H
  go_enter Try.func7, Try.ntmps7
  go_wp2_with (first | ((with_reducible refine gate_dst (N := 4) rfl ?_); refine box_event ?hg (N := 4) ?hd (cs := #[.int .i64 a0_0, .int .i64 a0_1, .slice A0_2 l0_2.length c0_2]) (t := 24) ?hr ?_; (case hd => rfl); (case hg => rfl); (case hr => first | (go_simp; done) | (go_simp; rfl)); intro gb831 hg w9 hbox hb; have n0_ := Aside0.mk (below_step zaj13 hb); have n1_ := Aside0.mk (hbox); have n2_ := Aside0.mk ((zaj63 : w.heap.size ≤ gb831)); have n3_ := Aside0.mk ((zaj63 : w.heap.size ≤ gb831)); clear HB; have HB := n0_; have BK831 := n1_; have GW831 := n2_; have GE831 := n3_; clear n0_ n1_ n2_ n3_; clear hb hbox hg) | ((with_reducible refine gate_dst (N := 5) rfl ?_); refine box_event ?hg (N := 5) ?hd (cs := #[.int .i64 a1_0, .int .i64 a1_1]) (t := 26) ?hr ?_; (case hd => rfl); (case hg => rfl); (case hr => first | (go_simp; done) | (go_simp; rfl)); intro gb832 hg w10 hbox hb; have n0_ := Aside0.mk (blk_below (g := gb831) (o := .cells #[.int .i64 a0_0, .int .i64 a0_1, .slice A0_2 l0_2.length c0_2] 24 (0, 0)) zaj3 hb); have n1_ := Aside0.mk (below_step zaj12 hb); have n2_ := Aside0.mk (hbox); have n3_ := Aside0.mk ((zaj64 : w.heap.size ≤ gb832)); have n4_ := Aside0.mk ((zaj64 : w.heap.size ≤ gb832)); have n5_ := Aside0.mk ((zaj61 : gb831 ≠ gb832)); have n6_ := Aside0.mk ((zaj62 : gb832 ≠ gb831)); clear BK831; clear HB; have BK831 := n0_; have HB := n1_; have BK832 := n2_; have GW832 := n3_; have GE832 := n4_; have NB831_832 := n5_; have NB832_831 := n6_; clear n0_ n1_ n2_ n3_ n4_ n5_ n6_; clear hb hbox hg))
  go_ret
  exact ⟨zaj17, zaj6⟩
 rw [if_neg c8] at H
 have c8b0 : decide (1048576 < (l3.length : Int)) = false := decide_eq_false c8
 have c8b1 : decide (1048576 < l3.length) = false := decide_eq_false (by omega)
 clear c8
 replace H := Option.bind_eq_some_iff.mp H
 obtain ⟨t833, A110, H⟩ := H
 replace H : (if t833 < 0 then (some true) else ((laws_toBoard.f k a0_0 a0_1 l0_2).bind fun bt834 => ((laws_toLeaper.f a1_0 a1_1).bind fun bt839 => ((laws_toIntS.f k l2).bind fun t841 => ((laws_toIntS.f k l3).bind fun t844 => ((spec_ChainWalks.f k bt834.1 bt834.2.1 bt834.2.2 bt839.1 bt839.2 t841 t844).bind fun bt847 => ((laws_toBoard.f k a0_0 a0_1 l0_2).bind fun bt851 => ((laws_toIntS.f k l2).bind fun t857 => ((laws_toIntS.f k l3).bind fun t860 => ((laws_toLeaper.f a1_0 a1_1).bind fun bt863 => ((impl_ChainWalks.f k bt851.1 bt851.2.1 bt851.2.2 bt863.1 bt863.2 t857 t860).bind fun bt865 => ((laws_eqIntS.f k bt865.1 bt847.1).bind fun t869 => (if t869 = true then (laws_FnExactChainWalks.j0 k l2 l3 bt847.1 bt847.2 t857 t860 bt865.1 bt865.2 (bt865.2 != bt847.2) a0_0 a0_1 l0_2 a1_0 a1_1 bt851.1 bt851.2.1 bt851.2.2) else (laws_FnExactChainWalks.j0 k l2 l3 bt847.1 bt847.2 t857 t860 bt865.1 bt865.2 true a0_0 a0_1 l0_2 a1_0 a1_1 bt851.1 bt851.2.1 bt851.2.2)))))))))))))) = some r := H
 have A11 := Aside0.mk A110
 clear A110
 by_cases c12 : t833 < 0
 ·rw [if_pos c12] at H
  have c12b0 : decide (t833 < 0) = true := decide_eq_true c12
  clear c12
  obtain rfl := Option.some.inj H
  go_enter Try.func7, Try.ntmps7
  go_wp2_with (first | ((with_reducible refine gate_dst (N := 4) rfl ?_); refine box_event ?hg (N := 4) ?hd (cs := #[.int .i64 a0_0, .int .i64 a0_1, .slice A0_2 l0_2.length c0_2]) (t := 24) ?hr ?_; (case hd => rfl); (case hg => rfl); (case hr => first | (go_simp; done) | (go_simp; rfl)); intro gb831 hg w13 hbox hb; have n0_ := Aside0.mk (below_step zaj13 hb); have n1_ := Aside0.mk (hbox); have n2_ := Aside0.mk ((zaj63 : w.heap.size ≤ gb831)); have n3_ := Aside0.mk ((zaj63 : w.heap.size ≤ gb831)); clear HB; have HB := n0_; have BK831 := n1_; have GW831 := n2_; have GE831 := n3_; clear n0_ n1_ n2_ n3_; clear hb hbox hg) | ((with_reducible refine gate_dst (N := 5) rfl ?_); refine box_event ?hg (N := 5) ?hd (cs := #[.int .i64 a1_0, .int .i64 a1_1]) (t := 26) ?hr ?_; (case hd => rfl); (case hg => rfl); (case hr => first | (go_simp; done) | (go_simp; rfl)); intro gb832 hg w14 hbox hb; have n0_ := Aside0.mk (blk_below (g := gb831) (o := .cells #[.int .i64 a0_0, .int .i64 a0_1, .slice A0_2 l0_2.length c0_2] 24 (0, 0)) zaj3 hb); have n1_ := Aside0.mk (below_step zaj12 hb); have n2_ := Aside0.mk (hbox); have n3_ := Aside0.mk ((zaj64 : w.heap.size ≤ gb832)); have n4_ := Aside0.mk ((zaj64 : w.heap.size ≤ gb832)); have n5_ := Aside0.mk ((zaj61 : gb831 ≠ gb832)); have n6_ := Aside0.mk ((zaj62 : gb832 ≠ gb831)); clear BK831; clear HB; have BK831 := n0_; have HB := n1_; have BK832 := n2_; have GW832 := n3_; have GE832 := n4_; have NB831_832 := n5_; have NB832_831 := n6_; clear n0_ n1_ n2_ n3_ n4_ n5_ n6_; clear hb hbox hg; have hnb15 := NB831_832.out; have hnc15 := NB832_831.out; have hcz16_0 : w14.cell? ⟨gb831, 0, none⟩ = some (.int .i64 a0_0) := (blk_cell BK831.out 0).trans rfl; have hcz16_1 : w14.cell? ⟨gb831, 1, none⟩ = some (.int .i64 a0_1) := (blk_cell BK831.out 1).trans rfl; have hcz16_2 : w14.cell? ⟨gb831, 2, none⟩ = some (.slice A0_2 l0_2.length c0_2) := (blk_cell BK831.out 2).trans rfl; have hfz16_0 := blk_frozen BK831.out 0; have hfz16_1 := blk_frozen BK831.out 1; have hfz16_2 := blk_frozen BK831.out 2) | ((with_reducible refine gate_callee (f := 12) rfl ?_); refine goesL_ (some 30) rfl rfl Try.func12 (by kernel_rfl) rfl #[.agg #[.int .i64 a0_0, .int .i64 a0_1, .slice A0_2 l0_2.length c0_2], .int .i64 1048576] rfl zaj2 ?_; (with_reducible refine (laws_szBoard.calls a0_0 a0_1 _ _ l0_2 1048576 t833 _ ?side1 ?side2 A11.out).mono ?_); (case side1 => exact zaj15); (case side2 => exact HC0_2.out); rintro e w17 ⟨rfl, hb⟩; refine ⟨_, rfl, ?_⟩; have n0_ := Aside0.mk (blk_below (g := gb831) (o := .cells #[.int .i64 a0_0, .int .i64 a0_1, .slice A0_2 l0_2.length c0_2] 24 (0, 0)) zaj3 hb); have n1_ := Aside0.mk (blk_below (g := gb832) (o := .cells #[.int .i64 a1_0, .int .i64 a1_1] 26 (0, 0)) zaj4 hb); have n2_ := Aside0.mk (below_step zaj6 hb); clear BK831; clear BK832; clear HB; have BK831 := n0_; have BK832 := n1_; have HB := n2_; clear n0_ n1_ n2_; (try clear hb); (try clear hb2); (try clear hk); (try clear hi); (try clear hna_); (try clear hnb_)))
  go_ret
  exact ⟨zaj17, zaj6⟩
 rw [if_neg c12] at H
 have c12b0 : decide (t833 < 0) = false := decide_eq_false c12
 clear c12
 replace H := Option.bind_eq_some_iff.mp H
 obtain ⟨⟨t834, t835, t836⟩, A180, H⟩ := H
 replace H : ((laws_toLeaper.f a1_0 a1_1).bind fun bt839 => ((laws_toIntS.f k l2).bind fun t841 => ((laws_toIntS.f k l3).bind fun t844 => ((spec_ChainWalks.f k t834 t835 t836 bt839.1 bt839.2 t841 t844).bind fun bt847 => ((laws_toBoard.f k a0_0 a0_1 l0_2).bind fun bt851 => ((laws_toIntS.f k l2).bind fun t857 => ((laws_toIntS.f k l3).bind fun t860 => ((laws_toLeaper.f a1_0 a1_1).bind fun bt863 => ((impl_ChainWalks.f k bt851.1 bt851.2.1 bt851.2.2 bt863.1 bt863.2 t857 t860).bind fun bt865 => ((laws_eqIntS.f k bt865.1 bt847.1).bind fun t869 => (if t869 = true then (laws_FnExactChainWalks.j0 k l2 l3 bt847.1 bt847.2 t857 t860 bt865.1 bt865.2 (bt865.2 != bt847.2) a0_0 a0_1 l0_2 a1_0 a1_1 bt851.1 bt851.2.1 bt851.2.2) else (laws_FnExactChainWalks.j0 k l2 l3 bt847.1 bt847.2 t857 t860 bt865.1 bt865.2 true a0_0 a0_1 l0_2 a1_0 a1_1 bt851.1 bt851.2.1 bt851.2.2)))))))))))) = some r := H
 have A18 := Aside0.mk A180
 clear A180
 replace H := Option.bind_eq_some_iff.mp H
 obtain ⟨⟨t839, t840⟩, A190, H⟩ := H
 replace H : ((laws_toIntS.f k l2).bind fun t841 => ((laws_toIntS.f k l3).bind fun t844 => ((spec_ChainWalks.f k t834 t835 t836 t839 t840 t841 t844).bind fun bt847 => ((laws_toBoard.f k a0_0 a0_1 l0_2).bind fun bt851 => ((laws_toIntS.f k l2).bind fun t857 => ((laws_toIntS.f k l3).bind fun t860 => ((laws_toLeaper.f a1_0 a1_1).bind fun bt863 => ((impl_ChainWalks.f k bt851.1 bt851.2.1 bt851.2.2 bt863.1 bt863.2 t857 t860).bind fun bt865 => ((laws_eqIntS.f k bt865.1 bt847.1).bind fun t869 => (if t869 = true then (laws_FnExactChainWalks.j0 k l2 l3 bt847.1 bt847.2 t857 t860 bt865.1 bt865.2 (bt865.2 != bt847.2) a0_0 a0_1 l0_2 a1_0 a1_1 bt851.1 bt851.2.1 bt851.2.2) else (laws_FnExactChainWalks.j0 k l2 l3 bt847.1 bt847.2 t857 t860 bt865.1 bt865.2 true a0_0 a0_1 l0_2 a1_0 a1_1 bt851.1 bt851.2.1 bt851.2.2))))))))))) = some r := H
 have A19 := Aside0.mk A190
 clear A190
 replace H := Option.bind_eq_some_iff.mp H
 obtain ⟨t841, A200, H⟩ := H
 replace H : ((laws_toIntS.f k l3).bind fun t844 => ((spec_ChainWalks.f k t834 t835 t836 t839 t840 t841 t844).bind fun bt847 => ((laws_toBoard.f k a0_0 a0_1 l0_2).bind fun bt851 => ((laws_toIntS.f k l2).bind fun t857 => ((laws_toIntS.f k l3).bind fun t860 => ((laws_toLeaper.f a1_0 a1_1).bind fun bt863 => ((impl_ChainWalks.f k bt851.1 bt851.2.1 bt851.2.2 bt863.1 bt863.2 t857 t860).bind fun bt865 => ((laws_eqIntS.f k bt865.1 bt847.1).bind fun t869 => (if t869 = true then (laws_FnExactChainWalks.j0 k l2 l3 bt847.1 bt847.2 t857 t860 bt865.1 bt865.2 (bt865.2 != bt847.2) a0_0 a0_1 l0_2 a1_0 a1_1 bt851.1 bt851.2.1 bt851.2.2) else (laws_FnExactChainWalks.j0 k l2 l3 bt847.1 bt847.2 t857 t860 bt865.1 bt865.2 true a0_0 a0_1 l0_2 a1_0 a1_1 bt851.1 bt851.2.1 bt851.2.2)))))))))) = some r := H
 have A20 := Aside0.mk A200
 clear A200
 replace H := Option.bind_eq_some_iff.mp H
 obtain ⟨t844, A210, H⟩ := H
 replace H : ((spec_ChainWalks.f k t834 t835 t836 t839 t840 t841 t844).bind fun bt847 => ((laws_toBoard.f k a0_0 a0_1 l0_2).bind fun bt851 => ((laws_toIntS.f k l2).bind fun t857 => ((laws_toIntS.f k l3).bind fun t860 => ((laws_toLeaper.f a1_0 a1_1).bind fun bt863 => ((impl_ChainWalks.f k bt851.1 bt851.2.1 bt851.2.2 bt863.1 bt863.2 t857 t860).bind fun bt865 => ((laws_eqIntS.f k bt865.1 bt847.1).bind fun t869 => (if t869 = true then (laws_FnExactChainWalks.j0 k l2 l3 bt847.1 bt847.2 t857 t860 bt865.1 bt865.2 (bt865.2 != bt847.2) a0_0 a0_1 l0_2 a1_0 a1_1 bt851.1 bt851.2.1 bt851.2.2) else (laws_FnExactChainWalks.j0 k l2 l3 bt847.1 bt847.2 t857 t860 bt865.1 bt865.2 true a0_0 a0_1 l0_2 a1_0 a1_1 bt851.1 bt851.2.1 bt851.2.2))))))))) = some r := H
 have A21 := Aside0.mk A210
 clear A210
 replace H := Option.bind_eq_some_iff.mp H
 obtain ⟨⟨t847, t850⟩, A220, H⟩ := H
 replace H : ((laws_toBoard.f k a0_0 a0_1 l0_2).bind fun bt851 => ((laws_toIntS.f k l2).bind fun t857 => ((laws_toIntS.f k l3).bind fun t860 => ((laws_toLeaper.f a1_0 a1_1).bind fun bt863 => ((impl_ChainWalks.f k bt851.1 bt851.2.1 bt851.2.2 bt863.1 bt863.2 t857 t860).bind fun bt865 => ((laws_eqIntS.f k bt865.1 t847).bind fun t869 => (if t869 = true then (laws_FnExactChainWalks.j0 k l2 l3 t847 t850 t857 t860 bt865.1 bt865.2 (bt865.2 != t850) a0_0 a0_1 l0_2 a1_0 a1_1 bt851.1 bt851.2.1 bt851.2.2) else (laws_FnExactChainWalks.j0 k l2 l3 t847 t850 t857 t860 bt865.1 bt865.2 true a0_0 a0_1 l0_2 a1_0 a1_1 bt851.1 bt851.2.1 bt851.2.2)))))))) = some r := H
 have A22 := Aside0.mk A220
 clear A220
 replace H := Option.bind_eq_some_iff.mp H
 obtain ⟨⟨t851, t852, t853⟩, A230, H⟩ := H
 replace H : ((laws_toIntS.f k l2).bind fun t857 => ((laws_toIntS.f k l3).bind fun t860 => ((laws_toLeaper.f a1_0 a1_1).bind fun bt863 => ((impl_ChainWalks.f k t851 t852 t853 bt863.1 bt863.2 t857 t860).bind fun bt865 => ((laws_eqIntS.f k bt865.1 t847).bind fun t869 => (if t869 = true then (laws_FnExactChainWalks.j0 k l2 l3 t847 t850 t857 t860 bt865.1 bt865.2 (bt865.2 != t850) a0_0 a0_1 l0_2 a1_0 a1_1 t851 t852 t853) else (laws_FnExactChainWalks.j0 k l2 l3 t847 t850 t857 t860 bt865.1 bt865.2 true a0_0 a0_1 l0_2 a1_0 a1_1 t851 t852 t853))))))) = some r := H
 have A23 := Aside0.mk A230
 clear A230
 replace H := Option.bind_eq_some_iff.mp H
 obtain ⟨t857, A240, H⟩ := H
 replace H : ((laws_toIntS.f k l3).bind fun t860 => ((laws_toLeaper.f a1_0 a1_1).bind fun bt863 => ((impl_ChainWalks.f k t851 t852 t853 bt863.1 bt863.2 t857 t860).bind fun bt865 => ((laws_eqIntS.f k bt865.1 t847).bind fun t869 => (if t869 = true then (laws_FnExactChainWalks.j0 k l2 l3 t847 t850 t857 t860 bt865.1 bt865.2 (bt865.2 != t850) a0_0 a0_1 l0_2 a1_0 a1_1 t851 t852 t853) else (laws_FnExactChainWalks.j0 k l2 l3 t847 t850 t857 t860 bt865.1 bt865.2 true a0_0 a0_1 l0_2 a1_0 a1_1 t851 t852 t853)))))) = some r := H
 have A24 := Aside0.mk A240
 clear A240
 replace H := Option.bind_eq_some_iff.mp H
 obtain ⟨t860, A250, H⟩ := H
 replace H : ((laws_toLeaper.f a1_0 a1_1).bind fun bt863 => ((impl_ChainWalks.f k t851 t852 t853 bt863.1 bt863.2 t857 t860).bind fun bt865 => ((laws_eqIntS.f k bt865.1 t847).bind fun t869 => (if t869 = true then (laws_FnExactChainWalks.j0 k l2 l3 t847 t850 t857 t860 bt865.1 bt865.2 (bt865.2 != t850) a0_0 a0_1 l0_2 a1_0 a1_1 t851 t852 t853) else (laws_FnExactChainWalks.j0 k l2 l3 t847 t850 t857 t860 bt865.1 bt865.2 true a0_0 a0_1 l0_2 a1_0 a1_1 t851 t852 t853))))) = some r := H
 have A25 := Aside0.mk A250
 clear A250
 replace H := Option.bind_eq_some_iff.mp H
 obtain ⟨⟨t863, t864⟩, A260, H⟩ := H
 replace H : ((impl_ChainWalks.f k t851 t852 t853 t863 t864 t857 t860).bind fun bt865 => ((laws_eqIntS.f k bt865.1 t847).bind fun t869 => (if t869 = true then (laws_FnExactChainWalks.j0 k l2 l3 t847 t850 t857 t860 bt865.1 bt865.2 (bt865.2 != t850) a0_0 a0_1 l0_2 a1_0 a1_1 t851 t852 t853) else (laws_FnExactChainWalks.j0 k l2 l3 t847 t850 t857 t860 bt865.1 bt865.2 true a0_0 a0_1 l0_2 a1_0 a1_1 t851 t852 t853)))) = some r := H
 have A26 := Aside0.mk A260
 clear A260
 replace H := Option.bind_eq_some_iff.mp H
 obtain ⟨⟨t865, t868⟩, A270, H⟩ := H
 replace H : ((laws_eqIntS.f k t865 t847).bind fun t869 => (if t869 = true then (laws_FnExactChainWalks.j0 k l2 l3 t847 t850 t857 t860 t865 t868 (t868 != t850) a0_0 a0_1 l0_2 a1_0 a1_1 t851 t852 t853) else (laws_FnExactChainWalks.j0 k l2 l3 t847 t850 t857 t860 t865 t868 true a0_0 a0_1 l0_2 a1_0 a1_1 t851 t852 t853))) = some r := H
 have A27 := Aside0.mk A270
 clear A270
 have HC28 := Aside0.mk H
 clear H
 go_enter Try.func7, Try.ntmps7
 try go_wp2_with (first | ((with_reducible refine gate_dst (N := 4) rfl ?_); refine box_event ?hg (N := 4) ?hd (cs := #[.int .i64 a0_0, .int .i64 a0_1, .slice A0_2 l0_2.length c0_2]) (t := 24) ?hr ?_; (case hd => rfl); (case hg => rfl); (case hr => first | (go_simp; done) | (go_simp; rfl)); intro gb831 hg w29 hbox hb; have n0_ := Aside0.mk (below_step zaj13 hb); have n1_ := Aside0.mk (hbox); have n2_ := Aside0.mk ((zaj63 : w.heap.size ≤ gb831)); have n3_ := Aside0.mk ((zaj63 : w.heap.size ≤ gb831)); clear HB; have HB := n0_; have BK831 := n1_; have GW831 := n2_; have GE831 := n3_; clear n0_ n1_ n2_ n3_; clear hb hbox hg) | ((with_reducible refine gate_dst (N := 5) rfl ?_); refine box_event ?hg (N := 5) ?hd (cs := #[.int .i64 a1_0, .int .i64 a1_1]) (t := 26) ?hr ?_; (case hd => rfl); (case hg => rfl); (case hr => first | (go_simp; done) | (go_simp; rfl)); intro gb832 hg w30 hbox hb; have n0_ := Aside0.mk (blk_below (g := gb831) (o := .cells #[.int .i64 a0_0, .int .i64 a0_1, .slice A0_2 l0_2.length c0_2] 24 (0, 0)) zaj3 hb); have n1_ := Aside0.mk (below_step zaj12 hb); have n2_ := Aside0.mk (hbox); have n3_ := Aside0.mk ((zaj64 : w.heap.size ≤ gb832)); have n4_ := Aside0.mk ((zaj64 : w.heap.size ≤ gb832)); have n5_ := Aside0.mk ((zaj61 : gb831 ≠ gb832)); have n6_ := Aside0.mk ((zaj62 : gb832 ≠ gb831)); clear BK831; clear HB; have BK831 := n0_; have HB := n1_; have BK832 := n2_; have GW832 := n3_; have GE832 := n4_; have NB831_832 := n5_; have NB832_831 := n6_; clear n0_ n1_ n2_ n3_ n4_ n5_ n6_; clear hb hbox hg; have hnb31 := NB831_832.out; have hnc31 := NB832_831.out; have hcz32_0 : w30.cell? ⟨gb831, 0, none⟩ = some (.int .i64 a0_0) := (blk_cell BK831.out 0).trans rfl; have hcz32_1 : w30.cell? ⟨gb831, 1, none⟩ = some (.int .i64 a0_1) := (blk_cell BK831.out 1).trans rfl; have hcz32_2 : w30.cell? ⟨gb831, 2, none⟩ = some (.slice A0_2 l0_2.length c0_2) := (blk_cell BK831.out 2).trans rfl; have hfz32_0 := blk_frozen BK831.out 0; have hfz32_1 := blk_frozen BK831.out 1; have hfz32_2 := blk_frozen BK831.out 2) | ((with_reducible refine gate_callee (f := 12) rfl ?_); refine goesL_ (some 30) rfl rfl Try.func12 (by kernel_rfl) rfl #[.agg #[.int .i64 a0_0, .int .i64 a0_1, .slice A0_2 l0_2.length c0_2], .int .i64 1048576] rfl zaj2 ?_; (with_reducible refine (laws_szBoard.calls a0_0 a0_1 _ _ l0_2 1048576 t833 _ ?side1 ?side2 A11.out).mono ?_); (case side1 => exact zaj15); (case side2 => exact HC0_2.out); rintro e w33 ⟨rfl, hb⟩; refine ⟨_, rfl, ?_⟩; have n0_ := Aside0.mk (blk_below (g := gb831) (o := .cells #[.int .i64 a0_0, .int .i64 a0_1, .slice A0_2 l0_2.length c0_2] 24 (0, 0)) zaj3 hb); have n1_ := Aside0.mk (blk_below (g := gb832) (o := .cells #[.int .i64 a1_0, .int .i64 a1_1] 26 (0, 0)) zaj4 hb); have n2_ := Aside0.mk (below_step zaj6 hb); clear BK831; clear BK832; clear HB; have BK831 := n0_; have BK832 := n1_; have HB := n2_; clear n0_ n1_ n2_; (try clear hb); (try clear hb2); (try clear hk); (try clear hi); (try clear hna_); (try clear hnb_)))
 have n0_ := Aside0.mk (blk_drew BK831.out)
 have n1_ := Aside0.mk (blk_drew BK832.out)
 have n2_ := Aside0.mk (below_drew1 HB.out)
 clear BK831
 clear BK832
 clear HB
 have BK831 := n0_
 have BK832 := n1_
 have HB := n2_
 clear n0_ n1_ n2_
 refine start_ (n := 14) (S := fun w' => w'.cell? ⟨gb831, 0, none⟩ = some (.int .i64 a0_0) ∧ w'.cell? ⟨gb831, 1, none⟩ = some (.int .i64 a0_1) ∧ w'.cell? ⟨gb831, 2, none⟩ = some (.slice A0_2 l0_2.length c0_2) ∧ w'.cell? ⟨gb832, 0, none⟩ = some (.int .i64 a1_0) ∧ w'.cell? ⟨gb832, 1, none⟩ = some (.int .i64 a1_1)) (ds := []) #[false, false, false, false, false, false, false, false, false, false, false, false, false, false] (by kernel_rfl) rfl rfl ⟨(blk_cell BK831.out 0).trans rfl, (blk_cell BK831.out 1).trans rfl, (blk_cell BK831.out 2).trans rfl, (blk_cell BK832.out 0).trans rfl, (blk_cell BK832.out 1).trans rfl⟩ (fun hHeld => ?_); refine with_tabW laws_FnExactChainWalks.tab9 laws_FnExactChainWalks.bits9 (fun HT_ HW_ => ?_)
 generalize w33.drew = w34 at BK831 BK832 HB hHeld ⊢
 refine pure_ (i := 4) (N := some 38) (v := ?_) (a' := ?_) #[false, false, false, false, true, false, false, false, false, false, false, false, false, false] rfl rfl (any_of HT_.out (by kernel_rfl)) (fun _ _ _ h => h) (Or.inl ⟨by rfl, ?_⟩) ?_ ?_
 rotate_left
 ·intro w'
  go_simp
  with_reducible rfl
 rotate_left
 ·simp only [Act.put, List.setIfInBounds_toArray, List.set_cons_zero, List.set_cons_succ, i64_w, i32_w]
  rfl
 refine pure_ (i := 6) (N := some 40) (v := ?_) (a' := ?_) #[false, false, false, false, true, false, true, false, false, false, false, false, false, false] rfl rfl (any_of HT_.out (by kernel_rfl)) (fun _ _ _ h => h) (Or.inl ⟨by rfl, ?_⟩) ?_ ?_
 rotate_left
 ·intro w'
  go_simp
  with_reducible rfl
 rotate_left
 ·simp only [Act.put, List.setIfInBounds_toArray, List.set_cons_zero, List.set_cons_succ, i64_w, i32_w]
  rfl
 refine take_ (i := 0) (N := some 34) (v := ?_) (a' := ?_) #[true, false, false, false, true, false, true, false, false, false, false, false, false, false] rfl rfl (take_ofW HT_.out HW_.out (by kernel_rfl)) (fun _ _ _ h => h) (Or.inl ⟨by rfl, ?_⟩) hHeld ?_ ?_
 rotate_left
 ·rintro w' ⟨s0, s1, s2, s3, s4⟩
  go_simp
  with_reducible rfl
 rotate_left
 ·simp only [Act.put, List.setIfInBounds_toArray, List.set_cons_zero, List.set_cons_succ, i64_w, i32_w]
  rfl
 refine take_ (i := 2) (N := some 36) (v := ?_) (a' := ?_) #[true, false, true, false, true, false, true, false, false, false, false, false, false, false] rfl rfl (take_ofW HT_.out HW_.out (by kernel_rfl)) (fun _ _ _ h => h) (Or.inl ⟨by rfl, ?_⟩) hHeld ?_ ?_
 rotate_left
 ·rintro w' ⟨s0, s1, s2, s3, s4⟩
  go_simp
  with_reducible rfl
 rotate_left
 ·simp only [Act.put, List.setIfInBounds_toArray, List.set_cons_zero, List.set_cons_succ, i64_w, i32_w]
  rfl
 refine one_ (i := 1) (N := some 35) #[true, true, true, false, true, false, true, false, false, false, false, false, false, false] rfl rfl (one_of HT_.out (by kernel_rfl)) (by decide) (fun K hK => ?_)
 refine goes_ Try.func14 (by kernel_rfl) rfl #[.agg #[.int .i64 a0_0, .int .i64 a0_1, .slice A0_2 l0_2.length c0_2]] (by rfl) rfl rfl zaj2 ?_
 with_reducible refine (laws_toBoard.calls k a0_0 a0_1 _ _ l0_2 t834 t835 t836 _ ?side1 ?side2 A18.out).mono ?_
 (case side1 => exact zaj15)
 (case side2 => exact HC0_2.out)
 rintro e w35 ⟨v837, rfl, ho0, hb⟩
 refine ⟨_, rfl, ?_⟩
 have n0_ := Aside0.mk (Kd.R_lower ho0 (below_size zaj6))
 have n1_ := Aside0.mk (blk_below (g := gb831) (o := .cells #[.int .i64 a0_0, .int .i64 a0_1, .slice A0_2 l0_2.length c0_2] 24 (0, 0)) zaj3 hb)
 have n2_ := Aside0.mk (blk_below (g := gb832) (o := .cells #[.int .i64 a1_0, .int .i64 a1_1] 26 (0, 0)) zaj4 hb)
 have n3_ := Aside0.mk (below_step zaj6 hb)
 clear BK831
 clear BK832
 clear HB
 have HO838 := n0_
 have BK831 := n1_
 have BK832 := n2_
 have HB := n3_
 clear n0_ n1_ n2_ n3_
 (try clear hb)
 (try clear hb2)
 (try clear hk)
 (try clear hi)
 (try clear ho0)
 (try clear hna_)
 (try clear hnb_)
 refine hK.out _ _ ⟨(blk_cell BK831.out 0).trans rfl, (blk_cell BK831.out 1).trans rfl, (blk_cell BK831.out 2).trans rfl, (blk_cell BK832.out 0).trans rfl, (blk_cell BK832.out 1).trans rfl⟩ (fun hHeld => ?_)
 clear hK K
 refine norm_ (a' := ?_) ?_ ?_
 rotate_left
 ·show Act.put _ (some 35) _ = _
  simp only [Act.put, List.setIfInBounds_toArray, List.set_cons_zero, List.set_cons_succ, i64_w, i32_w]
  rfl
 refine one_ (i := 3) (N := some 37) #[true, true, true, true, true, false, true, false, false, false, false, false, false, false] rfl rfl (one_of HT_.out (by kernel_rfl)) (by decide) (fun K hK => ?_)
 refine goes_ Try.func15 (by kernel_rfl) rfl #[.agg #[.int .i64 a1_0, .int .i64 a1_1]] (by rfl) rfl rfl zaj2 ?_
 with_reducible refine (laws_toLeaper.calls a1_0 a1_1 t839 t840 _ A19.out).mono ?_
 rintro e w36 ⟨rfl, hb⟩
 refine ⟨_, rfl, ?_⟩
 have n0_ := Aside0.mk (Kd.R_below zaj14 hb)
 have n1_ := Aside0.mk (blk_below (g := gb831) (o := .cells #[.int .i64 a0_0, .int .i64 a0_1, .slice A0_2 l0_2.length c0_2] 24 (0, 0)) zaj3 hb)
 have n2_ := Aside0.mk (blk_below (g := gb832) (o := .cells #[.int .i64 a1_0, .int .i64 a1_1] 26 (0, 0)) zaj4 hb)
 have n3_ := Aside0.mk (below_step zaj6 hb)
 clear HO838
 clear BK831
 clear BK832
 clear HB
 have HO838 := n0_
 have BK831 := n1_
 have BK832 := n2_
 have HB := n3_
 clear n0_ n1_ n2_ n3_
 (try clear hb)
 (try clear hb2)
 (try clear hk)
 (try clear hi)
 (try clear hna_)
 (try clear hnb_)
 refine hK.out _ _ ⟨(blk_cell BK831.out 0).trans rfl, (blk_cell BK831.out 1).trans rfl, (blk_cell BK831.out 2).trans rfl, (blk_cell BK832.out 0).trans rfl, (blk_cell BK832.out 1).trans rfl⟩ (fun hHeld => ?_)
 clear hK K
 refine norm_ (a' := ?_) ?_ ?_
 rotate_left
 ·show Act.put _ (some 37) _ = _
  simp only [Act.put, List.setIfInBounds_toArray, List.set_cons_zero, List.set_cons_succ, i64_w, i32_w]
  rfl
 refine one_ (i := 5) (N := some 39) #[true, true, true, true, true, true, true, false, false, false, false, false, false, false] rfl rfl (one_of HT_.out (by kernel_rfl)) (by decide) (fun K hK => ?_)
 refine goes_ Try.func16 (by kernel_rfl) rfl #[.slice A2 l2.length c2] (by rfl) rfl rfl zaj2 ?_
 with_reducible refine (laws_toIntS.calls k _ _ l2 t841 _ ?side1 ?side2 A20.out).mono ?_
 (case side1 => exact zaj22)
 (case side2 => exact HC2.out)
 rintro e w37 ⟨v842, rfl, ho0, hb⟩
 refine ⟨_, rfl, ?_⟩
 have n0_ := Aside0.mk (Kd.R_elder' zaj14 (Kd.R_base ho0) hb)
 have n1_ := Aside0.mk (Kd.R_lower (Kd.R_new' ho0 (Kd.R_lt zaj14)) (below_size zaj6))
 have n2_ := Aside0.mk (blk_below (g := gb831) (o := .cells #[.int .i64 a0_0, .int .i64 a0_1, .slice A0_2 l0_2.length c0_2] 24 (0, 0)) zaj3 hb)
 have n3_ := Aside0.mk (blk_below (g := gb832) (o := .cells #[.int .i64 a1_0, .int .i64 a1_1] 26 (0, 0)) zaj4 hb)
 have n4_ := Aside0.mk (below_step zaj6 hb)
 clear HO838
 clear BK831
 clear BK832
 clear HB
 have HO838 := n0_
 have HO843 := n1_
 have BK831 := n2_
 have BK832 := n3_
 have HB := n4_
 clear n0_ n1_ n2_ n3_ n4_
 (try clear hb)
 (try clear hb2)
 (try clear hk)
 (try clear hi)
 (try clear ho0)
 (try clear hna_)
 (try clear hnb_)
 refine hK.out _ _ ⟨(blk_cell BK831.out 0).trans rfl, (blk_cell BK831.out 1).trans rfl, (blk_cell BK831.out 2).trans rfl, (blk_cell BK832.out 0).trans rfl, (blk_cell BK832.out 1).trans rfl⟩ (fun hHeld => ?_)
 clear hK K
 refine norm_ (a' := ?_) ?_ ?_
 rotate_left
 ·show Act.put _ (some 39) _ = _
  simp only [Act.put, List.setIfInBounds_toArray, List.set_cons_zero, List.set_cons_succ, i64_w, i32_w]
  rfl
 refine one_ (i := 7) (N := some 41) #[true, true, true, true, true, true, true, true, false, false, false, false, false, false] rfl rfl (one_of HT_.out (by kernel_rfl)) (by decide) (fun K hK => ?_)
 refine goes_ Try.func16 (by kernel_rfl) rfl #[.slice A3 l3.length c3] (by rfl) rfl rfl zaj2 ?_
 with_reducible refine (laws_toIntS.calls k _ _ l3 t844 _ ?side1 ?side2 A21.out).mono ?_
 (case side1 => exact zaj37)
 (case side2 => exact HC3.out)
 rintro e w38 ⟨v845, rfl, ho0, hb⟩
 refine ⟨_, rfl, ?_⟩
 have n0_ := Aside0.mk (Kd.R_elder' zaj14 (Kd.R_base ho0) hb)
 have n1_ := Aside0.mk (Kd.R_elder' zaj19 (Kd.R_base ho0) hb)
 have n2_ := Aside0.mk (Kd.R_lower (Kd.R_new' (Kd.R_new' ho0 (Kd.R_lt zaj14)) (Kd.R_lt zaj19)) (below_size zaj6))
 have n3_ := Aside0.mk (blk_below (g := gb831) (o := .cells #[.int .i64 a0_0, .int .i64 a0_1, .slice A0_2 l0_2.length c0_2] 24 (0, 0)) zaj3 hb)
 have n4_ := Aside0.mk (blk_below (g := gb832) (o := .cells #[.int .i64 a1_0, .int .i64 a1_1] 26 (0, 0)) zaj4 hb)
 have n5_ := Aside0.mk (below_step zaj6 hb)
 clear HO838
 clear HO843
 clear BK831
 clear BK832
 clear HB
 have HO838 := n0_
 have HO843 := n1_
 have HO846 := n2_
 have BK831 := n3_
 have BK832 := n4_
 have HB := n5_
 clear n0_ n1_ n2_ n3_ n4_ n5_
 (try clear hb)
 (try clear hb2)
 (try clear hk)
 (try clear hi)
 (try clear ho0)
 (try clear hna_)
 (try clear hnb_)
 obtain ⟨Ao39, co39, eo39⟩ := Kd.R_slice HO838.out
 (first | subst eo39 | (injection eo39 with f1_ f2_ f3_; have f4_ := f1_.symm; have f5_ := f3_.symm; clear f1_ f2_ f3_; subst f4_; subst f5_))
 obtain ⟨Ao40, co40, eo40⟩ := Kd.R_slice HO843.out
 (first | subst eo40 | (injection eo40 with f1_ f2_ f3_; have f4_ := f1_.symm; have f5_ := f3_.symm; clear f1_ f2_ f3_; subst f4_; subst f5_))
 obtain ⟨Ao41, co41, eo41⟩ := Kd.R_slice HO846.out
 (first | subst eo41 | (injection eo41 with f1_ f2_ f3_; have f4_ := f1_.symm; have f5_ := f3_.symm; clear f1_ f2_ f3_; subst f4_; subst f5_))
 refine hK.out _ _ ⟨(blk_cell BK831.out 0).trans rfl, (blk_cell BK831.out 1).trans rfl, (blk_cell BK831.out 2).trans rfl, (blk_cell BK832.out 0).trans rfl, (blk_cell BK832.out 1).trans rfl⟩ (fun hHeld => ?_)
 clear hK K
 refine norm_ (a' := ?_) ?_ ?_
 rotate_left
 ·show Act.put _ (some 41) _ = _
  simp only [Act.put, List.setIfInBounds_toArray, List.set_cons_zero, List.set_cons_succ, i64_w, i32_w]
  rfl
 refine one_ (i := 8) (N := some 42) #[true, true, true, true, true, true, true, true, true, false, false, false, false, false] rfl rfl (one_of HT_.out (by kernel_rfl)) (by decide) (fun K hK => ?_)
 refine goes_ Try.func29 (by kernel_rfl) rfl #[.agg #[.int .i64 t834, .int .i64 t835, .slice Ao39 t836.length co39], .agg #[.int .i64 t839, .int .i64 t840], .slice Ao40 t841.length co40, .slice Ao41 t844.length co41] (by rfl) rfl rfl zaj2 ?_
 with_reducible refine (spec_ChainWalks.calls k t834 t835 _ _ t836 t839 t840 _ _ t841 _ _ t844 t847 t850 _ ?side1 ?side2 ?side3 ?side4 ?side5 ?side6 A22.out).mono ?_
 (case side1 => repeat (first | exact (Kd.R_reads' HO838.out).2.2 | (with_reducible refine Kd.C_alloc ?_ _) | (with_reducible refine Kd.C_drewN ?_ _) | (with_reducible refine Kd.C_drew ?_)))
 (case side2 => exact (Kd.R_reads' HO838.out).2.1)
 (case side3 => repeat (first | exact (Kd.R_reads' HO843.out).2.2 | (with_reducible refine Kd.C_alloc ?_ _) | (with_reducible refine Kd.C_drewN ?_ _) | (with_reducible refine Kd.C_drew ?_)))
 (case side4 => exact (Kd.R_reads' HO843.out).2.1)
 (case side5 => repeat (first | exact (Kd.R_reads' HO846.out).2.2 | (with_reducible refine Kd.C_alloc ?_ _) | (with_reducible refine Kd.C_drewN ?_ _) | (with_reducible refine Kd.C_drew ?_)))
 (case side6 => exact (Kd.R_reads' HO846.out).2.1)
 rintro e w42 ⟨v848, rfl, ho0, hb⟩
 refine ⟨_, rfl, ?_⟩
 have n0_ := Aside0.mk (Kd.R_elder' zaj14 (Kd.R_base ho0) hb)
 have n1_ := Aside0.mk (Kd.R_elder' zaj19 (Kd.R_base ho0) hb)
 have n2_ := Aside0.mk (Kd.R_elder' zaj20 (Kd.R_base ho0) hb)
 have n3_ := Aside0.mk (Kd.R_lower (Kd.R_new' (Kd.R_new' (Kd.R_new' ho0 (Kd.R_lt zaj14)) (Kd.R_lt zaj19)) (Kd.R_lt zaj20)) (below_size zaj6))
 have n4_ := Aside0.mk (blk_below (g := gb831) (o := .cells #[.int .i64 a0_0, .int .i64 a0_1, .slice A0_2 l0_2.length c0_2] 24 (0, 0)) zaj3 hb)
 have n5_ := Aside0.mk (blk_below (g := gb832) (o := .cells #[.int .i64 a1_0, .int .i64 a1_1] 26 (0, 0)) zaj4 hb)
 have n6_ := Aside0.mk (below_step zaj6 hb)
 clear HO838
 clear HO843
 clear HO846
 clear BK831
 clear BK832
 clear HB
 have HO838 := n0_
 have HO843 := n1_
 have HO846 := n2_
 have HO849 := n3_
 have BK831 := n4_
 have BK832 := n5_
 have HB := n6_
 clear n0_ n1_ n2_ n3_ n4_ n5_ n6_
 (try clear hb)
 (try clear hb2)
 (try clear hk)
 (try clear hi)
 (try clear ho0)
 (try clear hna_)
 (try clear hnb_)
 refine hK.out _ _ ⟨(blk_cell BK831.out 0).trans rfl, (blk_cell BK831.out 1).trans rfl, (blk_cell BK831.out 2).trans rfl, (blk_cell BK832.out 0).trans rfl, (blk_cell BK832.out 1).trans rfl⟩ (fun hHeld => ?_)
 clear hK K
 refine norm_ (a' := ?_) ?_ ?_
 rotate_left
 ·show Act.put _ (some 42) _ = _
  simp only [Act.put, List.setIfInBounds_toArray, List.set_cons_zero, List.set_cons_succ, i64_w, i32_w]
  rfl
 refine pure_ (i := 9) (N := some 33) (v := ?_) (a' := ?_) #[true, true, true, true, true, true, true, true, true, true, false, false, false, false] rfl rfl (any_of HT_.out (by kernel_rfl)) (fun _ _ _ h => h) (Or.inl ⟨by rfl, ?_⟩) ?_ ?_
 rotate_left
 ·intro w'
  go_simp
  with_reducible rfl
 rotate_left
 ·simp only [Act.put, List.setIfInBounds_toArray, List.set_cons_zero, List.set_cons_succ, i64_w, i32_w]
  rfl
 refine pure_ (i := 10) (N := some 43) (v := ?_) (a' := ?_) #[true, true, true, true, true, true, true, true, true, true, true, false, false, false] rfl rfl (any_of HT_.out (by kernel_rfl)) (fun _ _ _ h => h) (Or.inl ⟨by rfl, ?_⟩) ?_ ?_
 rotate_left
 ·intro w'
  go_simp
  with_reducible rfl
 rotate_left
 ·simp only [Act.put, List.setIfInBounds_toArray, List.set_cons_zero, List.set_cons_succ, i64_w, i32_w]
  rfl
 refine pure_ (i := 11) (N := some 44) (v := ?_) (a' := ?_) #[true, true, true, true, true, true, true, true, true, true, true, true, false, false] rfl rfl (any_of HT_.out (by kernel_rfl)) (fun _ _ _ h => h) (Or.inl ⟨by rfl, ?_⟩) ?_ ?_
 rotate_left
 ·intro w'
  go_simp
  with_reducible rfl
 rotate_left
 ·simp only [Act.put, List.setIfInBounds_toArray, List.set_cons_zero, List.set_cons_succ, i64_w, i32_w]
  rfl
 refine pure_ (i := 12) (N := some 10) (v := ?_) (a' := ?_) #[true, true, true, true, true, true, true, true, true, true, true, true, true, false] rfl rfl (any_of HT_.out (by kernel_rfl)) (fun _ _ _ h => h) (Or.inl ⟨by rfl, ?_⟩) ?_ ?_
 rotate_left
 ·intro w'
  go_simp
  with_reducible rfl
 rotate_left
 ·simp only [Act.put, List.setIfInBounds_toArray, List.set_cons_zero, List.set_cons_succ, i64_w, i32_w]
  rfl
 refine pure_ (i := 13) (N := some 11) (v := ?_) (a' := ?_) #[true, true, true, true, true, true, true, true, true, true, true, true, true, true] rfl rfl (any_of HT_.out (by kernel_rfl)) (fun _ _ _ h => h) (Or.inl ⟨by rfl, ?_⟩) ?_ ?_
 rotate_left
 ·intro w'
  go_simp
  with_reducible rfl
 rotate_left
 ·simp only [Act.put, List.setIfInBounds_toArray, List.set_cons_zero, List.set_cons_succ, i64_w, i32_w]
  rfl
 refine done_ (done_of HT_.out (by kernel_rfl)) ?_
 have hcz43_0 : w42.cell? ⟨gb831, 0, none⟩ = some (.int .i64 a0_0) := (blk_cell BK831.out 0).trans rfl
 have hcz43_1 : w42.cell? ⟨gb831, 1, none⟩ = some (.int .i64 a0_1) := (blk_cell BK831.out 1).trans rfl
 have hcz43_2 : w42.cell? ⟨gb831, 2, none⟩ = some (.slice A0_2 l0_2.length c0_2) := (blk_cell BK831.out 2).trans rfl
 have hfz43_0 := blk_frozen BK831.out 0
 have hfz43_1 := blk_frozen BK831.out 1
 have hfz43_2 := blk_frozen BK831.out 2
 try go_wp2_with (first | ((with_reducible refine gate_callee (f := 14) rfl ?_); refine goesL_ (some 46) rfl rfl Try.func14 (by kernel_rfl) rfl #[.agg #[.int .i64 a0_0, .int .i64 a0_1, .slice A0_2 l0_2.length c0_2]] rfl zaj2 ?_; (with_reducible refine (laws_toBoard.calls k a0_0 a0_1 _ _ l0_2 t851 t852 t853 _ ?side1 ?side2 A23.out).mono ?_); (case side1 => exact zaj15); (case side2 => exact HC0_2.out); rintro e w44 ⟨v854, rfl, ho0, hb⟩; refine ⟨_, rfl, ?_⟩; have n0_ := Aside0.mk (Kd.R_elder' zaj14 (Kd.R_base ho0) hb); have n1_ := Aside0.mk (Kd.R_elder' zaj19 (Kd.R_base ho0) hb); have n2_ := Aside0.mk (Kd.R_elder' zaj20 (Kd.R_base ho0) hb); have n3_ := Aside0.mk (Kd.R_elder' zaj21 (Kd.R_base ho0) hb); have n4_ := Aside0.mk (Kd.R_lower (Kd.R_new' (Kd.R_new' (Kd.R_new' (Kd.R_new' ho0 (Kd.R_lt zaj14)) (Kd.R_lt zaj19)) (Kd.R_lt zaj20)) (Kd.R_lt zaj21)) (below_size zaj6)); have n5_ := Aside0.mk (blk_below (g := gb831) (o := .cells #[.int .i64 a0_0, .int .i64 a0_1, .slice A0_2 l0_2.length c0_2] 24 (0, 0)) zaj3 hb); have n6_ := Aside0.mk (blk_below (g := gb832) (o := .cells #[.int .i64 a1_0, .int .i64 a1_1] 26 (0, 0)) zaj4 hb); have n7_ := Aside0.mk (below_step zaj6 hb); clear HO838; clear HO843; clear HO846; clear HO849; clear BK831; clear BK832; clear HB; have HO838 := n0_; have HO843 := n1_; have HO846 := n2_; have HO849 := n3_; have HO855 := n4_; have BK831 := n5_; have BK832 := n6_; have HB := n7_; clear n0_ n1_ n2_ n3_ n4_ n5_ n6_ n7_; (try clear hb); (try clear hb2); (try clear hk); (try clear hi); (try clear ho0); (try clear hna_); (try clear hnb_)) | ((with_reducible refine gate_dst (N := 12) rfl ?_); refine box_event ?hg (N := 12) ?hd (cs := #[.int .i64 0, .int .i64 0, .slice none 0 0]) (t := 30) ?hr ?_; (case hd => rfl); (case hg => rfl); (case hr => first | (go_simp; done) | (go_simp; rfl)); intro gb856 hg w45 hbox hb; have n0_ := Aside0.mk (Kd.R_below zaj14 hb); have n1_ := Aside0.mk (Kd.R_below zaj19 hb); have n2_ := Aside0.mk (Kd.R_below zaj20 hb); have n3_ := Aside0.mk (Kd.R_below zaj21 hb); have n4_ := Aside0.mk (Kd.R_below zaj24 hb); have n5_ := Aside0.mk (blk_below (g := gb831) (o := .cells #[.int .i64 a0_0, .int .i64 a0_1, .slice A0_2 l0_2.length c0_2] 24 (0, 0)) zaj3 hb); have n6_ := Aside0.mk (blk_below (g := gb832) (o := .cells #[.int .i64 a1_0, .int .i64 a1_1] 26 (0, 0)) zaj4 hb); have n7_ := Aside0.mk (below_step zaj6 hb); have n8_ := Aside0.mk (hbox); have n9_ := Aside0.mk ((by rw [hg]; exact (below_size zaj6) : w.heap.size ≤ gb856)); have n10_ := Aside0.mk ((by rw [hg]; exact (below_size zaj6) : w.heap.size ≤ gb856)); have n11_ := Aside0.mk ((zaj61 : gb831 ≠ gb856)); have n12_ := Aside0.mk ((zaj62 : gb856 ≠ gb831)); have n13_ := Aside0.mk ((by rw [hg]; exact Nat.ne_of_lt (blk_lt (g := gb832) (o := .cells #[.int .i64 a1_0, .int .i64 a1_1] 26 (0, 0)) zaj4) : gb832 ≠ gb856)); have n14_ := Aside0.mk ((by rw [hg]; exact Nat.ne_of_gt (blk_lt (g := gb832) (o := .cells #[.int .i64 a1_0, .int .i64 a1_1] 26 (0, 0)) zaj4) : gb856 ≠ gb832)); clear HO838; clear HO843; clear HO846; clear HO849; clear HO855; clear BK831; clear BK832; clear HB; have HO838 := n0_; have HO843 := n1_; have HO846 := n2_; have HO849 := n3_; have HO855 := n4_; have BK831 := n5_; have BK832 := n6_; have HB := n7_; have BK856 := n8_; have GW856 := n9_; have GE856 := n10_; have NB831_856 := n11_; have NB856_831 := n12_; have NB832_856 := n13_; have NB856_832 := n14_; clear n0_ n1_ n2_ n3_ n4_ n5_ n6_ n7_ n8_ n9_ n10_ n11_ n12_ n13_ n14_; clear hb hbox hg; have hnb46 := NB856_831.out; have hnc46 := NB831_856.out; have hnb47 := NB856_832.out; have hnc47 := NB832_856.out; have hcz48_0 : w45.cell? ⟨gb856, 0, none⟩ = some (.int .i64 0) := (blk_cell BK856.out 0).trans rfl; have hcz48_1 : w45.cell? ⟨gb856, 1, none⟩ = some (.int .i64 0) := (blk_cell BK856.out 1).trans rfl; have hcz48_2 : w45.cell? ⟨gb856, 2, none⟩ = some (.slice none 0 0) := (blk_cell BK856.out 2).trans rfl; have hfz48_0 := blk_frozen BK856.out 0; have hfz48_1 := blk_frozen BK856.out 1; have hfz48_2 := blk_frozen BK856.out 2; obtain ⟨Ao49, co49, eo49⟩ := Kd.R_slice HO855.out; subst eo49) | ((with_reducible refine gate_callee (f := 16) rfl ?_); refine goesL_ (some 48) rfl rfl Try.func16 (by kernel_rfl) rfl #[.slice A2 l2.length c2] rfl zaj2 ?_; (with_reducible refine (laws_toIntS.calls k _ _ l2 t857 _ ?side1 ?side2 A24.out).mono ?_); (case side1 => exact Kd.C_below HR2.out zaj1); (case side2 => exact HC2.out); rintro e w50 ⟨v858, rfl, ho0, hb⟩; refine ⟨_, rfl, ?_⟩; have n0_ := Aside0.mk (Kd.R_elder' zaj33 (Kd.R_base ho0) hb); have n1_ := Aside0.mk (Kd.R_elder' zaj32 (Kd.R_base ho0) hb); have n2_ := Aside0.mk (Kd.R_elder' zaj31 (Kd.R_base ho0) hb); have n3_ := Aside0.mk (Kd.R_elder' zaj30 (Kd.R_base ho0) hb); have n4_ := Aside0.mk (Kd.R_elder' zaj29 (Kd.R_base ho0) hb); have n5_ := Aside0.mk (Kd.R_lower (Kd.R_new' (Kd.R_new' (Kd.R_new' (Kd.R_new' (Kd.R_new' ho0 (Kd.R_lt zaj33)) (Kd.R_lt zaj32)) (Kd.R_lt zaj31)) (Kd.R_lt zaj30)) (Kd.R_lt zaj29)) (below_size zaj1)); have n6_ := Aside0.mk (blk_below (g := gb831) (o := .cells #[.int .i64 a0_0, .int .i64 a0_1, .slice A0_2 l0_2.length c0_2] 24 (0, 0)) (by (with_reducible repeat (first | refine blk_drewN ?_ _ | refine blk_drew ?_ | refine blk_alloc ?_ _)); refine blk_far ?_ NB831_856.out _; (with_reducible repeat (first | refine blk_drewN ?_ _ | refine blk_drew ?_ | refine blk_alloc ?_ _)); refine blk_far ?_ NB831_856.out _; (with_reducible repeat (first | refine blk_drewN ?_ _ | refine blk_drew ?_ | refine blk_alloc ?_ _)); refine blk_far ?_ NB831_856.out _; first | exact BK831.out | ((with_reducible repeat (first | refine blk_drewN ?_ _ | refine blk_drew ?_ | refine blk_alloc ?_ _)); exact BK831.out)) hb); have n7_ := Aside0.mk (blk_below (g := gb832) (o := .cells #[.int .i64 a1_0, .int .i64 a1_1] 26 (0, 0)) (by (with_reducible repeat (first | refine blk_drewN ?_ _ | refine blk_drew ?_ | refine blk_alloc ?_ _)); refine blk_far ?_ NB832_856.out _; (with_reducible repeat (first | refine blk_drewN ?_ _ | refine blk_drew ?_ | refine blk_alloc ?_ _)); refine blk_far ?_ NB832_856.out _; (with_reducible repeat (first | refine blk_drewN ?_ _ | refine blk_drew ?_ | refine blk_alloc ?_ _)); refine blk_far ?_ NB832_856.out _; first | exact BK832.out | ((with_reducible repeat (first | refine blk_drewN ?_ _ | refine blk_drew ?_ | refine blk_alloc ?_ _)); exact BK832.out)) hb); have n8_ := Aside0.mk (blk_below (g := gb856) (o := .cells #[.int .i64 t851, .int .i64 t852, .slice Ao49 t853.length co49] 30 (0, 0)) (by (with_reducible repeat (first | refine blk_drewN ?_ _ | refine blk_drew ?_ | refine blk_alloc ?_ _)); refine blk_put (cs := #[.int .i64 t851, .int .i64 t852, .slice none 0 0]) ?_ 2 _ rfl; (with_reducible repeat (first | refine blk_drewN ?_ _ | refine blk_drew ?_ | refine blk_alloc ?_ _)); refine blk_put (cs := #[.int .i64 t851, .int .i64 0, .slice none 0 0]) ?_ 1 _ rfl; (with_reducible repeat (first | refine blk_drewN ?_ _ | refine blk_drew ?_ | refine blk_alloc ?_ _)); refine blk_put (cs := #[.int .i64 0, .int .i64 0, .slice none 0 0]) ?_ 0 _ rfl; first | exact BK856.out | ((with_reducible repeat (first | refine blk_drewN ?_ _ | refine blk_drew ?_ | refine blk_alloc ?_ _)); exact BK856.out)) hb); have n9_ := Aside0.mk (below_step zaj1 hb); clear HO838; clear HO843; clear HO846; clear HO849; clear HO855; clear BK831; clear BK832; clear BK856; clear HB; have HO838 := n0_; have HO843 := n1_; have HO846 := n2_; have HO849 := n3_; have HO855 := n4_; have HO859 := n5_; have BK831 := n6_; have BK832 := n7_; have BK856 := n8_; have HB := n9_; clear n0_ n1_ n2_ n3_ n4_ n5_ n6_ n7_ n8_ n9_; (try clear hb); (try clear hb2); (try clear hk); (try clear hi); (try clear ho0); (try clear hna_); (try clear hnb_)) | ((with_reducible refine gate_callee (f := 16) rfl ?_); refine goesL_ (some 50) rfl rfl Try.func16 (by kernel_rfl) rfl #[.slice A3 l3.length c3] rfl zaj2 ?_; (with_reducible refine (laws_toIntS.calls k _ _ l3 t860 _ ?side1 ?side2 A25.out).mono ?_); (case side1 => exact zaj37); (case side2 => exact HC3.out); rintro e w51 ⟨v861, rfl, ho0, hb⟩; refine ⟨_, rfl, ?_⟩; have n0_ := Aside0.mk (Kd.R_elder' zaj14 (Kd.R_base ho0) hb); have n1_ := Aside0.mk (Kd.R_elder' zaj19 (Kd.R_base ho0) hb); have n2_ := Aside0.mk (Kd.R_elder' zaj20 (Kd.R_base ho0) hb); have n3_ := Aside0.mk (Kd.R_elder' zaj21 (Kd.R_base ho0) hb); have n4_ := Aside0.mk (Kd.R_elder' zaj24 (Kd.R_base ho0) hb); have n5_ := Aside0.mk (Kd.R_elder' zaj34 (Kd.R_base ho0) hb); have n6_ := Aside0.mk (Kd.R_lower (Kd.R_new' (Kd.R_new' (Kd.R_new' (Kd.R_new' (Kd.R_new' (Kd.R_new' ho0 (Kd.R_lt zaj14)) (Kd.R_lt zaj19)) (Kd.R_lt zaj20)) (Kd.R_lt zaj21)) (Kd.R_lt zaj24)) (Kd.R_lt zaj34)) (below_size zaj1)); have n7_ := Aside0.mk (blk_below (g := gb831) (o := .cells #[.int .i64 a0_0, .int .i64 a0_1, .slice A0_2 l0_2.length c0_2] 24 (0, 0)) zaj3 hb); have n8_ := Aside0.mk (blk_below (g := gb832) (o := .cells #[.int .i64 a1_0, .int .i64 a1_1] 26 (0, 0)) zaj4 hb); have n9_ := Aside0.mk (blk_below (g := gb856) (o := .cells #[.int .i64 t851, .int .i64 t852, .slice Ao49 t853.length co49] 30 (0, 0)) zaj5 hb); have n10_ := Aside0.mk (below_step zaj1 hb); clear HO838; clear HO843; clear HO846; clear HO849; clear HO855; clear HO859; clear BK831; clear BK832; clear BK856; clear HB; have HO838 := n0_; have HO843 := n1_; have HO846 := n2_; have HO849 := n3_; have HO855 := n4_; have HO859 := n5_; have HO862 := n6_; have BK831 := n7_; have BK832 := n8_; have BK856 := n9_; have HB := n10_; clear n0_ n1_ n2_ n3_ n4_ n5_ n6_ n7_ n8_ n9_ n10_; (try clear hb); (try clear hb2); (try clear hk); (try clear hi); (try clear ho0); (try clear hna_); (try clear hnb_)))
 have n0_ := Aside0.mk (Kd.R_drew HO838.out)
 have n1_ := Aside0.mk (Kd.R_drew HO843.out)
 have n2_ := Aside0.mk (Kd.R_drew HO846.out)
 have n3_ := Aside0.mk (Kd.R_drew HO849.out)
 have n4_ := Aside0.mk (Kd.R_drew HO855.out)
 have n5_ := Aside0.mk (Kd.R_drew HO859.out)
 have n6_ := Aside0.mk (Kd.R_drew HO862.out)
 have n7_ := Aside0.mk (blk_drew BK831.out)
 have n8_ := Aside0.mk (blk_drew BK832.out)
 have n9_ := Aside0.mk (blk_drew BK856.out)
 have n10_ := Aside0.mk (below_drew1 HB.out)
 clear HO838
 clear HO843
 clear HO846
 clear HO849
 clear HO855
 clear HO859
 clear HO862
 clear BK831
 clear BK832
 clear BK856
 clear HB
 have HO838 := n0_
 have HO843 := n1_
 have HO846 := n2_
 have HO849 := n3_
 have HO855 := n4_
 have HO859 := n5_
 have HO862 := n6_
 have BK831 := n7_
 have BK832 := n8_
 have BK856 := n9_
 have HB := n10_
 clear n0_ n1_ n2_ n3_ n4_ n5_ n6_ n7_ n8_ n9_ n10_
 refine start_ (n := 11) (S := fun w' => w'.cell? ⟨gb856, 0, none⟩ = some (.int .i64 t851) ∧ w'.cell? ⟨gb856, 1, none⟩ = some (.int .i64 t852) ∧ w'.cell? ⟨gb856, 2, none⟩ = some (.slice Ao49 t853.length co49) ∧ w'.cell? ⟨gb832, 0, none⟩ = some (.int .i64 a1_0) ∧ w'.cell? ⟨gb832, 1, none⟩ = some (.int .i64 a1_1)) (ds := []) #[false, false, false, false, false, false, false, false, false, false, false] (by kernel_rfl) rfl rfl ⟨(blk_cell BK856.out 0).trans rfl, (blk_cell BK856.out 1).trans rfl, (blk_cell BK856.out 2).trans rfl, (blk_cell BK832.out 0).trans rfl, (blk_cell BK832.out 1).trans rfl⟩ (fun hHeld => ?_); refine with_tabW laws_FnExactChainWalks.tab13 laws_FnExactChainWalks.bits13 (fun HT_ HW_ => ?_)
 generalize w51.drew = w52 at HO838 HO843 HO846 HO849 HO855 HO859 HO862 BK831 BK832 BK856 HB hHeld ⊢
 refine pure_ (i := 3) (N := some 55) (v := ?_) (a' := ?_) #[false, false, false, true, false, false, false, false, false, false, false] rfl rfl (any_of HT_.out (by kernel_rfl)) (fun _ _ _ h => h) (Or.inl ⟨by rfl, ?_⟩) ?_ ?_
 rotate_left
 ·intro w'
  go_simp
  with_reducible rfl
 rotate_left
 ·simp only [Act.put, List.setIfInBounds_toArray, List.set_cons_zero, List.set_cons_succ, i64_w, i32_w]
  rfl
 refine pure_ (i := 4) (N := some 56) (v := ?_) (a' := ?_) #[false, false, false, true, true, false, false, false, false, false, false] rfl rfl (any_of HT_.out (by kernel_rfl)) (fun _ _ _ h => h) (Or.inl ⟨by rfl, ?_⟩) ?_ ?_
 rotate_left
 ·intro w'
  go_simp
  with_reducible rfl
 rotate_left
 ·simp only [Act.put, List.setIfInBounds_toArray, List.set_cons_zero, List.set_cons_succ, i64_w, i32_w]
  rfl
 refine take_ (i := 0) (N := some 52) (v := ?_) (a' := ?_) #[true, false, false, true, true, false, false, false, false, false, false] rfl rfl (take_ofW HT_.out HW_.out (by kernel_rfl)) (fun _ _ _ h => h) (Or.inl ⟨by rfl, ?_⟩) hHeld ?_ ?_
 rotate_left
 ·rintro w' ⟨s0, s1, s2, s3, s4⟩
  go_simp
  with_reducible rfl
 rotate_left
 ·simp only [Act.put, List.setIfInBounds_toArray, List.set_cons_zero, List.set_cons_succ, i64_w, i32_w]
  rfl
 refine take_ (i := 1) (N := some 53) (v := ?_) (a' := ?_) #[true, true, false, true, true, false, false, false, false, false, false] rfl rfl (take_ofW HT_.out HW_.out (by kernel_rfl)) (fun _ _ _ h => h) (Or.inl ⟨by rfl, ?_⟩) hHeld ?_ ?_
 rotate_left
 ·rintro w' ⟨s0, s1, s2, s3, s4⟩
  go_simp
  with_reducible rfl
 rotate_left
 ·simp only [Act.put, List.setIfInBounds_toArray, List.set_cons_zero, List.set_cons_succ, i64_w, i32_w]
  rfl
 refine one_ (i := 2) (N := some 54) #[true, true, true, true, true, false, false, false, false, false, false] rfl rfl (one_of HT_.out (by kernel_rfl)) (by decide) (fun K hK => ?_)
 refine goes_ Try.func15 (by kernel_rfl) rfl #[.agg #[.int .i64 a1_0, .int .i64 a1_1]] (by rfl) rfl rfl zaj2 ?_
 with_reducible refine (laws_toLeaper.calls a1_0 a1_1 t863 t864 _ A26.out).mono ?_
 rintro e w53 ⟨rfl, hb⟩
 refine ⟨_, rfl, ?_⟩
 have n0_ := Aside0.mk (Kd.R_below zaj14 hb)
 have n1_ := Aside0.mk (Kd.R_below zaj19 hb)
 have n2_ := Aside0.mk (Kd.R_below zaj20 hb)
 have n3_ := Aside0.mk (Kd.R_below zaj21 hb)
 have n4_ := Aside0.mk (Kd.R_below zaj24 hb)
 have n5_ := Aside0.mk (Kd.R_below zaj34 hb)
 have n6_ := Aside0.mk (Kd.R_below zaj44 hb)
 have n7_ := Aside0.mk (blk_below (g := gb831) (o := .cells #[.int .i64 a0_0, .int .i64 a0_1, .slice A0_2 l0_2.length c0_2] 24 (0, 0)) zaj3 hb)
 have n8_ := Aside0.mk (blk_below (g := gb832) (o := .cells #[.int .i64 a1_0, .int .i64 a1_1] 26 (0, 0)) zaj4 hb)
 have n9_ := Aside0.mk (blk_below (g := gb856) (o := .cells #[.int .i64 t851, .int .i64 t852, .slice Ao49 t853.length co49] 30 (0, 0)) zaj5 hb)
 have n10_ := Aside0.mk (below_step zaj1 hb)
 clear HO838
 clear HO843
 clear HO846
 clear HO849
 clear HO855
 clear HO859
 clear HO862
 clear BK831
 clear BK832
 clear BK856
 clear HB
 have HO838 := n0_
 have HO843 := n1_
 have HO846 := n2_
 have HO849 := n3_
 have HO855 := n4_
 have HO859 := n5_
 have HO862 := n6_
 have BK831 := n7_
 have BK832 := n8_
 have BK856 := n9_
 have HB := n10_
 clear n0_ n1_ n2_ n3_ n4_ n5_ n6_ n7_ n8_ n9_ n10_
 (try clear hb)
 (try clear hb2)
 (try clear hk)
 (try clear hi)
 (try clear hna_)
 (try clear hnb_)
 obtain ⟨Ao54, co54, eo54⟩ := Kd.R_slice HO859.out
 (first | subst eo54 | (injection eo54 with f1_ f2_ f3_; have f4_ := f1_.symm; have f5_ := f3_.symm; clear f1_ f2_ f3_; subst f4_; subst f5_))
 obtain ⟨Ao55, co55, eo55⟩ := Kd.R_slice HO862.out
 (first | subst eo55 | (injection eo55 with f1_ f2_ f3_; have f4_ := f1_.symm; have f5_ := f3_.symm; clear f1_ f2_ f3_; subst f4_; subst f5_))
 refine hK.out _ _ ⟨(blk_cell BK856.out 0).trans rfl, (blk_cell BK856.out 1).trans rfl, (blk_cell BK856.out 2).trans rfl, (blk_cell BK832.out 0).trans rfl, (blk_cell BK832.out 1).trans rfl⟩ (fun hHeld => ?_)
 clear hK K
 refine norm_ (a' := ?_) ?_ ?_
 rotate_left
 ·show Act.put _ (some 54) _ = _
  simp only [Act.put, List.setIfInBounds_toArray, List.set_cons_zero, List.set_cons_succ, i64_w, i32_w]
  rfl
 refine one_ (i := 5) (N := some 57) #[true, true, true, true, true, true, false, false, false, false, false] rfl rfl (one_of HT_.out (by kernel_rfl)) (by decide) (fun K hK => ?_)
 refine goes_ Try.func30 (by kernel_rfl) rfl #[.agg #[.int .i64 t851, .int .i64 t852, .slice Ao49 t853.length co49], .agg #[.int .i64 t863, .int .i64 t864], .slice Ao54 t857.length co54, .slice Ao55 t860.length co55] (by rfl) rfl rfl zaj2 ?_
 with_reducible refine (impl_ChainWalks.calls k t851 t852 _ _ t853 t863 t864 _ _ t857 _ _ t860 t865 t868 _ ?side1 ?side2 ?side3 ?side4 ?side5 ?side6 A27.out).mono ?_
 (case side1 => repeat (first | exact (Kd.R_reads' HO855.out).2.2 | (with_reducible refine Kd.C_alloc ?_ _) | (with_reducible refine Kd.C_drewN ?_ _) | (with_reducible refine Kd.C_drew ?_)))
 (case side2 => exact (Kd.R_reads' HO855.out).2.1)
 (case side3 => repeat (first | exact (Kd.R_reads' HO859.out).2.2 | (with_reducible refine Kd.C_alloc ?_ _) | (with_reducible refine Kd.C_drewN ?_ _) | (with_reducible refine Kd.C_drew ?_)))
 (case side4 => exact (Kd.R_reads' HO859.out).2.1)
 (case side5 => repeat (first | exact (Kd.R_reads' HO862.out).2.2 | (with_reducible refine Kd.C_alloc ?_ _) | (with_reducible refine Kd.C_drewN ?_ _) | (with_reducible refine Kd.C_drew ?_)))
 (case side6 => exact (Kd.R_reads' HO862.out).2.1)
 rintro e w56 ⟨v866, rfl, ho0, hb⟩
 refine ⟨_, rfl, ?_⟩
 have n0_ := Aside0.mk (Kd.R_elder' zaj14 (Kd.R_base ho0) hb)
 have n1_ := Aside0.mk (Kd.R_elder' zaj19 (Kd.R_base ho0) hb)
 have n2_ := Aside0.mk (Kd.R_elder' zaj20 (Kd.R_base ho0) hb)
 have n3_ := Aside0.mk (Kd.R_elder' zaj21 (Kd.R_base ho0) hb)
 have n4_ := Aside0.mk (Kd.R_elder' zaj24 (Kd.R_base ho0) hb)
 have n5_ := Aside0.mk (Kd.R_elder' zaj34 (Kd.R_base ho0) hb)
 have n6_ := Aside0.mk (Kd.R_elder' zaj44 (Kd.R_base ho0) hb)
 have n7_ := Aside0.mk (Kd.R_lower (Kd.R_new' (Kd.R_new' (Kd.R_new' (Kd.R_new' (Kd.R_new' (Kd.R_new' (Kd.R_new' ho0 (Kd.R_lt zaj14)) (Kd.R_lt zaj19)) (Kd.R_lt zaj20)) (Kd.R_lt zaj21)) (Kd.R_lt zaj24)) (Kd.R_lt zaj34)) (Kd.R_lt zaj44)) (below_size zaj1))
 have n8_ := Aside0.mk (blk_below (g := gb831) (o := .cells #[.int .i64 a0_0, .int .i64 a0_1, .slice A0_2 l0_2.length c0_2] 24 (0, 0)) zaj3 hb)
 have n9_ := Aside0.mk (blk_below (g := gb832) (o := .cells #[.int .i64 a1_0, .int .i64 a1_1] 26 (0, 0)) zaj4 hb)
 have n10_ := Aside0.mk (blk_below (g := gb856) (o := .cells #[.int .i64 t851, .int .i64 t852, .slice Ao49 t853.length co49] 30 (0, 0)) zaj5 hb)
 have n11_ := Aside0.mk (below_step zaj1 hb)
 clear HO838
 clear HO843
 clear HO846
 clear HO849
 clear HO855
 clear HO859
 clear HO862
 clear BK831
 clear BK832
 clear BK856
 clear HB
 have HO838 := n0_
 have HO843 := n1_
 have HO846 := n2_
 have HO849 := n3_
 have HO855 := n4_
 have HO859 := n5_
 have HO862 := n6_
 have HO867 := n7_
 have BK831 := n8_
 have BK832 := n9_
 have BK856 := n10_
 have HB := n11_
 clear n0_ n1_ n2_ n3_ n4_ n5_ n6_ n7_ n8_ n9_ n10_ n11_
 (try clear hb)
 (try clear hb2)
 (try clear hk)
 (try clear hi)
 (try clear ho0)
 (try clear hna_)
 (try clear hnb_)
 refine hK.out _ _ ⟨(blk_cell BK856.out 0).trans rfl, (blk_cell BK856.out 1).trans rfl, (blk_cell BK856.out 2).trans rfl, (blk_cell BK832.out 0).trans rfl, (blk_cell BK832.out 1).trans rfl⟩ (fun hHeld => ?_)
 clear hK K
 refine norm_ (a' := ?_) ?_ ?_
 rotate_left
 ·show Act.put _ (some 57) _ = _
  simp only [Act.put, List.setIfInBounds_toArray, List.set_cons_zero, List.set_cons_succ, i64_w, i32_w]
  rfl
 refine pure_ (i := 6) (N := some 51) (v := ?_) (a' := ?_) #[true, true, true, true, true, true, true, false, false, false, false] rfl rfl (any_of HT_.out (by kernel_rfl)) (fun _ _ _ h => h) (Or.inl ⟨by rfl, ?_⟩) ?_ ?_
 rotate_left
 ·intro w'
  go_simp
  with_reducible rfl
 rotate_left
 ·simp only [Act.put, List.setIfInBounds_toArray, List.set_cons_zero, List.set_cons_succ, i64_w, i32_w]
  rfl
 refine pure_ (i := 7) (N := some 58) (v := ?_) (a' := ?_) #[true, true, true, true, true, true, true, true, false, false, false] rfl rfl (any_of HT_.out (by kernel_rfl)) (fun _ _ _ h => h) (Or.inl ⟨by rfl, ?_⟩) ?_ ?_
 rotate_left
 ·intro w'
  go_simp
  with_reducible rfl
 rotate_left
 ·simp only [Act.put, List.setIfInBounds_toArray, List.set_cons_zero, List.set_cons_succ, i64_w, i32_w]
  rfl
 refine pure_ (i := 8) (N := some 59) (v := ?_) (a' := ?_) #[true, true, true, true, true, true, true, true, true, false, false] rfl rfl (any_of HT_.out (by kernel_rfl)) (fun _ _ _ h => h) (Or.inl ⟨by rfl, ?_⟩) ?_ ?_
 rotate_left
 ·intro w'
  go_simp
  with_reducible rfl
 rotate_left
 ·simp only [Act.put, List.setIfInBounds_toArray, List.set_cons_zero, List.set_cons_succ, i64_w, i32_w]
  rfl
 refine pure_ (i := 9) (N := some 15) (v := ?_) (a' := ?_) #[true, true, true, true, true, true, true, true, true, true, false] rfl rfl (any_of HT_.out (by kernel_rfl)) (fun _ _ _ h => h) (Or.inl ⟨by rfl, ?_⟩) ?_ ?_
 rotate_left
 ·intro w'
  go_simp
  with_reducible rfl
 rotate_left
 ·simp only [Act.put, List.setIfInBounds_toArray, List.set_cons_zero, List.set_cons_succ, i64_w, i32_w]
  rfl
 refine pure_ (i := 10) (N := some 16) (v := ?_) (a' := ?_) #[true, true, true, true, true, true, true, true, true, true, true] rfl rfl (any_of HT_.out (by kernel_rfl)) (fun _ _ _ h => h) (Or.inl ⟨by rfl, ?_⟩) ?_ ?_
 rotate_left
 ·intro w'
  go_simp
  with_reducible rfl
 rotate_left
 ·simp only [Act.put, List.setIfInBounds_toArray, List.set_cons_zero, List.set_cons_succ, i64_w, i32_w]
  rfl
 refine done_ (done_of HT_.out (by kernel_rfl)) ?_
 go_upto_region 14 with (fail)
 go_cut [68] (fun v68 wc => ∃ (kq : Nat) (x68_27 : Bool), v68 = .bool x68_27 ∧ Aside0 (laws_FnExactChainWalks.j0 kq l2 l3 t847 t850 t857 t860 t865 t868 x68_27 a0_0 a0_1 l0_2 a1_0 a1_1 t851 t852 t853 = some r) ∧ Aside0 (kq ≤ k) ∧ Aside0 (Kd.R (Kd.int .i64) 3 wc w.heap.size (fun k_ => some k_ ≠ ((.slice Ao54 t857.length co54) : Value).ownBlock ∧ some k_ ≠ ((.slice Ao55 t860.length co55) : Value).ownBlock ∧ some k_ ≠ (v866 : Value).ownBlock ∧ some k_ ≠ ((.slice Ao49 t853.length co49) : Value).ownBlock) v848 t847) ∧ Aside0 (Kd.R (Kd.int .i64) 3 wc w.heap.size (fun k_ => some k_ ≠ (v848 : Value).ownBlock ∧ some k_ ≠ ((.slice Ao55 t860.length co55) : Value).ownBlock ∧ some k_ ≠ (v866 : Value).ownBlock ∧ some k_ ≠ ((.slice Ao49 t853.length co49) : Value).ownBlock) (.slice Ao54 t857.length co54) t857) ∧ Aside0 (Kd.R (Kd.int .i64) 3 wc w.heap.size (fun k_ => some k_ ≠ (v848 : Value).ownBlock ∧ some k_ ≠ ((.slice Ao54 t857.length co54) : Value).ownBlock ∧ some k_ ≠ (v866 : Value).ownBlock ∧ some k_ ≠ ((.slice Ao49 t853.length co49) : Value).ownBlock) (.slice Ao55 t860.length co55) t860) ∧ Aside0 (Kd.R (Kd.int .i64) 3 wc w.heap.size (fun k_ => some k_ ≠ (v848 : Value).ownBlock ∧ some k_ ≠ ((.slice Ao54 t857.length co54) : Value).ownBlock ∧ some k_ ≠ ((.slice Ao55 t860.length co55) : Value).ownBlock ∧ some k_ ≠ ((.slice Ao49 t853.length co49) : Value).ownBlock) v866 t865) ∧ Aside0 (Kd.R (Kd.int .i64) 3 wc w.heap.size (fun k_ => some k_ ≠ (v848 : Value).ownBlock ∧ some k_ ≠ ((.slice Ao54 t857.length co54) : Value).ownBlock ∧ some k_ ≠ ((.slice Ao55 t860.length co55) : Value).ownBlock ∧ some k_ ≠ (v866 : Value).ownBlock) (.slice Ao49 t853.length co49) t853) ∧ Aside0 (wc.heap[gb831]? = some (.cells #[.int .i64 a0_0, .int .i64 a0_1, (.slice A0_2 l0_2.length c0_2)] 24 (0, 0))) ∧ Aside0 (wc.heap[gb832]? = some (.cells #[.int .i64 a1_0, .int .i64 a1_1] 26 (0, 0))) ∧ Aside0 (wc.heap[gb856]? = some (.cells #[.int .i64 t851, .int .i64 t852, (.slice Ao49 t853.length co49)] 30 (0, 0))) ∧ Aside0 (Below w.heap.size w wc))
 case first =>
  have H := HC28.out
  clear HC28
  replace H := Option.bind_eq_some_iff.mp H
  obtain ⟨t869, A570, H⟩ := H
  replace H : (if t869 = true then (laws_FnExactChainWalks.j0 k l2 l3 t847 t850 t857 t860 t865 t868 (t868 != t850) a0_0 a0_1 l0_2 a1_0 a1_1 t851 t852 t853) else (laws_FnExactChainWalks.j0 k l2 l3 t847 t850 t857 t860 t865 t868 true a0_0 a0_1 l0_2 a1_0 a1_1 t851 t852 t853)) = some r := H
  have A57 := Aside0.mk A570
  clear A570
  by_cases c58 : t869 = true
  ·subst c58
   have H1 : (laws_FnExactChainWalks.j0 k l2 l3 t847 t850 t857 t860 t865 t868 (t868 != t850) a0_0 a0_1 l0_2 a1_0 a1_1 t851 t852 t853) = some r := by rw [if_pos rfl] at H; exact H
   clear H
   have H := H1
   clear H1
   have H' := Aside0.mk H
   clear H
   obtain ⟨Ao59, co59, eo59⟩ := Kd.R_slice HO867.out
   subst eo59
   obtain ⟨Ao60, co60, eo60⟩ := Kd.R_slice HO849.out
   subst eo60
   go_wp2_with (first | ((with_reducible refine gate_callee (f := 18) rfl ?_); refine goesL_ (some 62) rfl rfl Try.func18 (by kernel_rfl) rfl #[.slice Ao59 t865.length co59, .slice Ao60 t847.length co60] rfl zaj2 ?_; (with_reducible refine (laws_eqIntS.calls k _ _ t865 _ _ t847 true _ ?side1 ?side2 ?side3 ?side4 A57.out).mono ?_); (case side1 => exact zaj56); (case side2 => exact (Kd.R_reads' HO867.out).2.1); (case side3 => exact zaj57); (case side4 => exact (Kd.R_reads' HO849.out).2.1); rintro e w' ⟨rfl, ⟨nd, rfl⟩⟩; refine ⟨_, rfl, ?_⟩))
   go_meet
   case rel => exact ⟨_, ((t868 != t850)), zaj43, H', ⟨by first | omega | exact Nat.le_refl _⟩, ⟨zaj50⟩, ⟨zaj48⟩, ⟨zaj47⟩, ⟨zaj46⟩, ⟨zaj49⟩, ⟨zaj3⟩, ⟨zaj4⟩, ⟨zaj5⟩, ⟨zaj1⟩⟩
  replace c58 := Bool.eq_false_iff.mpr c58
  subst c58
  have H1 : (laws_FnExactChainWalks.j0 k l2 l3 t847 t850 t857 t860 t865 t868 true a0_0 a0_1 l0_2 a1_0 a1_1 t851 t852 t853) = some r := by rw [if_neg (show ¬ (false = true) by decide)] at H; exact H
  clear H
  have H := H1
  clear H1
  have H' := Aside0.mk H
  clear H
  obtain ⟨Ao61, co61, eo61⟩ := Kd.R_slice HO867.out
  subst eo61
  obtain ⟨Ao62, co62, eo62⟩ := Kd.R_slice HO849.out
  subst eo62
  go_wp2_with (first | ((with_reducible refine gate_callee (f := 18) rfl ?_); refine goesL_ (some 62) rfl rfl Try.func18 (by kernel_rfl) rfl #[.slice Ao61 t865.length co61, .slice Ao62 t847.length co62] rfl zaj2 ?_; (with_reducible refine (laws_eqIntS.calls k _ _ t865 _ _ t847 false _ ?side1 ?side2 ?side3 ?side4 A57.out).mono ?_); (case side1 => exact zaj56); (case side2 => exact (Kd.R_reads' HO867.out).2.1); (case side3 => exact zaj57); (case side4 => exact (Kd.R_reads' HO849.out).2.1); rintro e w' ⟨rfl, ⟨nd, rfl⟩⟩; refine ⟨_, rfl, ?_⟩))
  go_meet
  case rel => exact ⟨_, (true), zaj43, H', ⟨by first | omega | exact Nat.le_refl _⟩, ⟨zaj50⟩, ⟨zaj48⟩, ⟨zaj47⟩, ⟨zaj46⟩, ⟨zaj49⟩, ⟨zaj3⟩, ⟨zaj4⟩, ⟨zaj5⟩, ⟨zaj1⟩⟩
 case rest =>
  clear HC28
  try clear c1; try clear c2; try clear p2; try clear c3; try clear c4; try clear c5; try clear c7; try clear c12; try clear c14; try clear c15; try clear c16; try clear c18; try clear c29; try clear c30; try clear c31; try clear c46; try clear c47; try clear c58; try clear hcz32_0; try clear hcz32_1; try clear hcz32_2; try clear hcz43_0; try clear hcz43_1; try clear hcz43_2; try clear hcz48_0; try clear hcz48_1; try clear hcz48_2; try clear hfz32_0; try clear hfz32_1; try clear hfz32_2; try clear hfz43_0; try clear hfz43_1; try clear hfz43_2; try clear hfz48_0; try clear hfz48_1; try clear hfz48_2
  obtain ⟨kq, x68_27, rfl, HA, HJ27, HO_10, HO_13, HO_14, HO_15, HO_857002, BK831, BK832, BK856, HB⟩ := hcut
  cases kq with
  | zero => exact absurd HA.out (by simp [laws_FnExactChainWalks.j0])
  | succ kj27 =>
   have H := HA.out
   clear HA
   simp only [laws_FnExactChainWalks.j0] at H
   by_cases c63 : x68_27 = true
   ·subst c63
    have H1 : (some false) = some r := by rw [if_pos rfl] at H; exact H
    clear H
    have H := H1
    clear H1
    obtain rfl := Option.some.inj H
    go_wp2
    go_ret
    exact ⟨zaj17, zaj1⟩
   replace c63 := Bool.eq_false_iff.mpr c63
   subst c63
   have H1 : ((laws_toBoard.f kj27 a0_0 a0_1 l0_2).bind fun bt870 => ((laws_eqBoard.f kj27 t851 t852 t853 bt870.1 bt870.2.1 bt870.2.2).bind fun t875 => (if t875 = true then ((laws_toIntS.f kj27 l2).bind fun t876 => ((laws_eqIntS.f kj27 t857 t876).bind fun t879 => (if t879 = true then ((laws_toIntS.f kj27 l3).bind fun t880 => ((laws_eqIntS.f kj27 t860 t880).bind fun t883 => (if t883 = true then ((laws_markBoard.f kj27 t851 t852 t853 1).bind fun bt884 => ((laws_markIntS.f kj27 t857 bt884.1).bind fun bt886 => ((laws_markIntS.f kj27 t860 bt886.1).bind fun bt888 => (if bt888.1 < 0 then (laws_FnExactChainWalks.j1 kj27 l2 l3 t847 t850 t865 true a0_0 a0_1 l0_2 a1_0 a1_1) else ((laws_eqIntS.f kj27 t865 t847).bind fun t890 => (if t890 = true then (laws_FnExactChainWalks.j1 kj27 l2 l3 t847 t850 t865 (t868 != t850) a0_0 a0_1 l0_2 a1_0 a1_1) else (laws_FnExactChainWalks.j1 kj27 l2 l3 t847 t850 t865 true a0_0 a0_1 l0_2 a1_0 a1_1))))))) else (some false)))) else (some false)))) else (some false)))) = some r := by rw [if_neg (show ¬ (false = true) by decide)] at H; exact H
   clear H
   have H := H1
   clear H1
   replace H := Option.bind_eq_some_iff.mp H
   obtain ⟨⟨t870, t871, t872⟩, A640, H⟩ := H
   replace H : ((laws_eqBoard.f kj27 t851 t852 t853 t870 t871 t872).bind fun t875 => (if t875 = true then ((laws_toIntS.f kj27 l2).bind fun t876 => ((laws_eqIntS.f kj27 t857 t876).bind fun t879 => (if t879 = true then ((laws_toIntS.f kj27 l3).bind fun t880 => ((laws_eqIntS.f kj27 t860 t880).bind fun t883 => (if t883 = true then ((laws_markBoard.f kj27 t851 t852 t853 1).bind fun bt884 => ((laws_markIntS.f kj27 t857 bt884.1).bind fun bt886 => ((laws_markIntS.f kj27 t860 bt886.1).bind fun bt888 => (if bt888.1 < 0 then (laws_FnExactChainWalks.j1 kj27 l2 l3 t847 t850 t865 true a0_0 a0_1 l0_2 a1_0 a1_1) else ((laws_eqIntS.f kj27 t865 t847).bind fun t890 => (if t890 = true then (laws_FnExactChainWalks.j1 kj27 l2 l3 t847 t850 t865 (t868 != t850) a0_0 a0_1 l0_2 a1_0 a1_1) else (laws_FnExactChainWalks.j1 kj27 l2 l3 t847 t850 t865 true a0_0 a0_1 l0_2 a1_0 a1_1))))))) else (some false)))) else (some false)))) else (some false))) = some r := H
   have A64 := Aside0.mk A640
   clear A640
   replace H := Option.bind_eq_some_iff.mp H
   obtain ⟨t875, A650, H⟩ := H
   replace H : (if t875 = true then ((laws_toIntS.f kj27 l2).bind fun t876 => ((laws_eqIntS.f kj27 t857 t876).bind fun t879 => (if t879 = true then ((laws_toIntS.f kj27 l3).bind fun t880 => ((laws_eqIntS.f kj27 t860 t880).bind fun t883 => (if t883 = true then ((laws_markBoard.f kj27 t851 t852 t853 1).bind fun bt884 => ((laws_markIntS.f kj27 t857 bt884.1).bind fun bt886 => ((laws_markIntS.f kj27 t860 bt886.1).bind fun bt888 => (if bt888.1 < 0 then (laws_FnExactChainWalks.j1 kj27 l2 l3 t847 t850 t865 true a0_0 a0_1 l0_2 a1_0 a1_1) else ((laws_eqIntS.f kj27 t865 t847).bind fun t890 => (if t890 = true then (laws_FnExactChainWalks.j1 kj27 l2 l3 t847 t850 t865 (t868 != t850) a0_0 a0_1 l0_2 a1_0 a1_1) else (laws_FnExactChainWalks.j1 kj27 l2 l3 t847 t850 t865 true a0_0 a0_1 l0_2 a1_0 a1_1))))))) else (some false)))) else (some false)))) else (some false)) = some r := H
   have A65 := Aside0.mk A650
   clear A650
   by_cases c66 : t875 = true
   rotate_left
   ·replace c66 := Bool.eq_false_iff.mpr c66
    subst c66
    have H1 : (some false) = some r := by rw [if_neg (show ¬ (false = true) by decide)] at H; exact H
    clear H
    have H := H1
    clear H1
    obtain rfl := Option.some.inj H
    try go_wp2
    have n0_ := Aside0.mk (Kd.R_drew HO_10.out)
    have n1_ := Aside0.mk (Kd.R_drew HO_13.out)
    have n2_ := Aside0.mk (Kd.R_drew HO_14.out)
    have n3_ := Aside0.mk (Kd.R_drew HO_15.out)
    have n4_ := Aside0.mk (Kd.R_drew HO_857002.out)
    have n5_ := Aside0.mk (blk_drew BK831.out)
    have n6_ := Aside0.mk (blk_drew BK832.out)
    have n7_ := Aside0.mk (blk_drew BK856.out)
    have n8_ := Aside0.mk (below_drew1 HB.out)
    clear HO_10
    clear HO_13
    clear HO_14
    clear HO_15
    clear HO_857002
    clear BK831
    clear BK832
    clear BK856
    clear HB
    have HO_10 := n0_
    have HO_13 := n1_
    have HO_14 := n2_
    have HO_15 := n3_
    have HO_857002 := n4_
    have BK831 := n5_
    have BK832 := n6_
    have BK856 := n7_
    have HB := n8_
    clear n0_ n1_ n2_ n3_ n4_ n5_ n6_ n7_ n8_
    refine start_ (n := 5) (S := fun w' => w'.cell? ⟨gb856, 0, none⟩ = some (.int .i64 t851) ∧ w'.cell? ⟨gb856, 1, none⟩ = some (.int .i64 t852) ∧ w'.cell? ⟨gb856, 2, none⟩ = some (.slice Ao49 t853.length co49) ∧ w'.cell? ⟨gb831, 0, none⟩ = some (.int .i64 a0_0) ∧ w'.cell? ⟨gb831, 1, none⟩ = some (.int .i64 a0_1) ∧ w'.cell? ⟨gb831, 2, none⟩ = some (.slice A0_2 l0_2.length c0_2)) (ds := []) #[false, false, false, false, false] (by kernel_rfl) rfl rfl ⟨(blk_cell BK856.out 0).trans rfl, (blk_cell BK856.out 1).trans rfl, (blk_cell BK856.out 2).trans rfl, (blk_cell BK831.out 0).trans rfl, (blk_cell BK831.out 1).trans rfl, (blk_cell BK831.out 2).trans rfl⟩ (fun hHeld => ?_)
    generalize wc.drew = w148 at HO_10 HO_13 HO_14 HO_15 HO_857002 BK831 BK832 BK856 HB hHeld ⊢
    refine take_ (i := 0) (N := some 69) (v := ?_) (a' := ?_) #[true, false, false, false, false] rfl rfl (by kernel_rfl) (fun _ _ _ h => h) (Or.inl ⟨by rfl, ?_⟩) hHeld ?_ ?_
    rotate_left
    ·rintro w' ⟨s0, s1, s2, s3, s4, s5⟩
     go_simp
     with_reducible rfl
    rotate_left
    ·simp only [Act.put, List.setIfInBounds_toArray, List.set_cons_zero, List.set_cons_succ, i64_w, i32_w]
     rfl
    refine take_ (i := 1) (N := some 70) (v := ?_) (a' := ?_) #[true, true, false, false, false] rfl rfl (by kernel_rfl) (fun _ _ _ h => h) (Or.inl ⟨by rfl, ?_⟩) hHeld ?_ ?_
    rotate_left
    ·rintro w' ⟨s0, s1, s2, s3, s4, s5⟩
     go_simp
     with_reducible rfl
    rotate_left
    ·simp only [Act.put, List.setIfInBounds_toArray, List.set_cons_zero, List.set_cons_succ, i64_w, i32_w]
     rfl
    refine one_ (i := 2) (N := some 71) #[true, true, true, false, false] rfl rfl (by kernel_rfl) (by decide) (fun K hK => ?_)
    refine goes_ Try.func14 (by kernel_rfl) rfl #[.agg #[.int .i64 a0_0, .int .i64 a0_1, .slice A0_2 l0_2.length c0_2]] (by rfl) rfl rfl zaj2 ?_
    with_reducible refine (laws_toBoard.calls kj27 a0_0 a0_1 _ _ l0_2 t870 t871 t872 _ ?side1 ?side2 A64.out).mono ?_
    (case side1 => exact zaj15)
    (case side2 => exact HC0_2.out)
    rintro e w149 ⟨v873, rfl, ho0, hb⟩
    refine ⟨_, rfl, ?_⟩
    have n0_ := Aside0.mk (Kd.R_elder' zaj9 (Kd.R_base ho0) hb)
    have n1_ := Aside0.mk (Kd.R_elder' zaj11 (Kd.R_base ho0) hb)
    have n2_ := Aside0.mk (Kd.R_elder' zaj10 (Kd.R_base ho0) hb)
    have n3_ := Aside0.mk (Kd.R_elder' zaj8 (Kd.R_base ho0) hb)
    have n4_ := Aside0.mk (Kd.R_elder' zaj7 (Kd.R_base ho0) hb)
    have n5_ := Aside0.mk (Kd.R_lower (Kd.R_new' (Kd.R_new' (Kd.R_new' (Kd.R_new' (Kd.R_new' ho0 (Kd.R_lt zaj9)) (Kd.R_lt zaj11)) (Kd.R_lt zaj10)) (Kd.R_lt zaj8)) (Kd.R_lt zaj7)) (below_size zaj1))
    have n6_ := Aside0.mk (blk_below (g := gb831) (o := .cells #[.int .i64 a0_0, .int .i64 a0_1, .slice A0_2 l0_2.length c0_2] 24 (0, 0)) zaj3 hb)
    have n7_ := Aside0.mk (blk_below (g := gb832) (o := .cells #[.int .i64 a1_0, .int .i64 a1_1] 26 (0, 0)) zaj4 hb)
    have n8_ := Aside0.mk (blk_below (g := gb856) (o := .cells #[.int .i64 t851, .int .i64 t852, .slice Ao49 t853.length co49] 30 (0, 0)) zaj5 hb)
    have n9_ := Aside0.mk (below_step zaj1 hb)
    clear HO_10
    clear HO_13
    clear HO_14
    clear HO_15
    clear HO_857002
    clear BK831
    clear BK832
    clear BK856
    clear HB
    have HO_10 := n0_
    have HO_13 := n1_
    have HO_14 := n2_
    have HO_15 := n3_
    have HO_857002 := n4_
    have HO874 := n5_
    have BK831 := n6_
    have BK832 := n7_
    have BK856 := n8_
    have HB := n9_
    clear n0_ n1_ n2_ n3_ n4_ n5_ n6_ n7_ n8_ n9_
    (try clear hb)
    (try clear hb2)
    (try clear hk)
    (try clear hi)
    (try clear ho0)
    (try clear hna_)
    (try clear hnb_)
    obtain ⟨Ao150, co150, eo150⟩ := Kd.R_slice HO874.out
    (first | subst eo150 | (injection eo150 with f1_ f2_ f3_; have f4_ := f1_.symm; have f5_ := f3_.symm; clear f1_ f2_ f3_; subst f4_; subst f5_))
    refine hK.out _ _ ⟨(blk_cell BK856.out 0).trans rfl, (blk_cell BK856.out 1).trans rfl, (blk_cell BK856.out 2).trans rfl, (blk_cell BK831.out 0).trans rfl, (blk_cell BK831.out 1).trans rfl, (blk_cell BK831.out 2).trans rfl⟩ (fun hHeld => ?_)
    clear hK K
    refine norm_ (a' := ?_) ?_ ?_
    rotate_left
    ·show Act.put _ (some 71) _ = _
     simp only [Act.put, List.setIfInBounds_toArray, List.set_cons_zero, List.set_cons_succ, i64_w, i32_w]
     rfl
    refine one_ (i := 3) (N := some 72) #[true, true, true, true, false] rfl rfl (by kernel_rfl) (by decide) (fun K hK => ?_)
    refine goes_ Try.func19 (by kernel_rfl) rfl #[.agg #[.int .i64 t851, .int .i64 t852, .slice Ao49 t853.length co49], .agg #[.int .i64 t870, .int .i64 t871, .slice Ao150 t872.length co150]] (by rfl) rfl rfl zaj2 ?_
    with_reducible refine (laws_eqBoard.calls kj27 t851 t852 _ _ t853 t870 t871 _ _ t872 false _ ?side1 ?side2 ?side3 ?side4 A65.out).mono ?_
    (case side1 => exact zaj25)
    (case side2 => exact (Kd.R_reads' HO_857002.out).2.1)
    (case side3 => exact zaj27)
    (case side4 => exact (Kd.R_reads' HO874.out).2.1)
    rintro e w151 ⟨rfl, hb⟩
    refine ⟨_, rfl, ?_⟩
    have n0_ := Aside0.mk (Kd.R_below zaj9 hb)
    have n1_ := Aside0.mk (Kd.R_below zaj11 hb)
    have n2_ := Aside0.mk (Kd.R_below zaj10 hb)
    have n3_ := Aside0.mk (Kd.R_below zaj8 hb)
    have n4_ := Aside0.mk (Kd.R_below zaj7 hb)
    have n5_ := Aside0.mk (Kd.R_below zaj16 hb)
    have n6_ := Aside0.mk (blk_below (g := gb831) (o := .cells #[.int .i64 a0_0, .int .i64 a0_1, .slice A0_2 l0_2.length c0_2] 24 (0, 0)) zaj3 hb)
    have n7_ := Aside0.mk (blk_below (g := gb832) (o := .cells #[.int .i64 a1_0, .int .i64 a1_1] 26 (0, 0)) zaj4 hb)
    have n8_ := Aside0.mk (blk_below (g := gb856) (o := .cells #[.int .i64 t851, .int .i64 t852, .slice Ao49 t853.length co49] 30 (0, 0)) zaj5 hb)
    have n9_ := Aside0.mk (below_step zaj1 hb)
    clear HO_10
    clear HO_13
    clear HO_14
    clear HO_15
    clear HO_857002
    clear HO874
    clear BK831
    clear BK832
    clear BK856
    clear HB
    have HO_10 := n0_
    have HO_13 := n1_
    have HO_14 := n2_
    have HO_15 := n3_
    have HO_857002 := n4_
    have HO874 := n5_
    have BK831 := n6_
    have BK832 := n7_
    have BK856 := n8_
    have HB := n9_
    clear n0_ n1_ n2_ n3_ n4_ n5_ n6_ n7_ n8_ n9_
    (try clear hb)
    (try clear hb2)
    (try clear hk)
    (try clear hi)
    (try clear hna_)
    (try clear hnb_)
    refine hK.out _ _ ⟨(blk_cell BK856.out 0).trans rfl, (blk_cell BK856.out 1).trans rfl, (blk_cell BK856.out 2).trans rfl, (blk_cell BK831.out 0).trans rfl, (blk_cell BK831.out 1).trans rfl, (blk_cell BK831.out 2).trans rfl⟩ (fun hHeld => ?_)
    clear hK K
    refine norm_ (a' := ?_) ?_ ?_
    rotate_left
    ·show Act.put _ (some 72) _ = _
     simp only [Act.put, List.setIfInBounds_toArray, List.set_cons_zero, List.set_cons_succ, i64_w, i32_w]
     rfl
    refine pure_ (i := 4) (N := some 73) (v := ?_) (a' := ?_) #[true, true, true, true, true] rfl rfl (by kernel_rfl) (fun _ _ _ h => h) (Or.inl ⟨by rfl, ?_⟩) ?_ ?_
    rotate_left
    ·intro w'
     go_simp
     with_reducible rfl
    rotate_left
    ·simp only [Act.put, List.setIfInBounds_toArray, List.set_cons_zero, List.set_cons_succ, i64_w, i32_w]
     rfl
    refine done_ (by kernel_rfl) ?_
    try go_wp2
    go_ret
    exact ⟨zaj17, zaj1⟩
   subst c66
   have H1 : ((laws_toIntS.f kj27 l2).bind fun t876 => ((laws_eqIntS.f kj27 t857 t876).bind fun t879 => (if t879 = true then ((laws_toIntS.f kj27 l3).bind fun t880 => ((laws_eqIntS.f kj27 t860 t880).bind fun t883 => (if t883 = true then ((laws_markBoard.f kj27 t851 t852 t853 1).bind fun bt884 => ((laws_markIntS.f kj27 t857 bt884.1).bind fun bt886 => ((laws_markIntS.f kj27 t860 bt886.1).bind fun bt888 => (if bt888.1 < 0 then (laws_FnExactChainWalks.j1 kj27 l2 l3 t847 t850 t865 true a0_0 a0_1 l0_2 a1_0 a1_1) else ((laws_eqIntS.f kj27 t865 t847).bind fun t890 => (if t890 = true then (laws_FnExactChainWalks.j1 kj27 l2 l3 t847 t850 t865 (t868 != t850) a0_0 a0_1 l0_2 a1_0 a1_1) else (laws_FnExactChainWalks.j1 kj27 l2 l3 t847 t850 t865 true a0_0 a0_1 l0_2 a1_0 a1_1))))))) else (some false)))) else (some false)))) = some r := by rw [if_pos rfl] at H; exact H
   clear H
   have H := H1
   clear H1
   replace H := Option.bind_eq_some_iff.mp H
   obtain ⟨t876, A670, H⟩ := H
   replace H : ((laws_eqIntS.f kj27 t857 t876).bind fun t879 => (if t879 = true then ((laws_toIntS.f kj27 l3).bind fun t880 => ((laws_eqIntS.f kj27 t860 t880).bind fun t883 => (if t883 = true then ((laws_markBoard.f kj27 t851 t852 t853 1).bind fun bt884 => ((laws_markIntS.f kj27 t857 bt884.1).bind fun bt886 => ((laws_markIntS.f kj27 t860 bt886.1).bind fun bt888 => (if bt888.1 < 0 then (laws_FnExactChainWalks.j1 kj27 l2 l3 t847 t850 t865 true a0_0 a0_1 l0_2 a1_0 a1_1) else ((laws_eqIntS.f kj27 t865 t847).bind fun t890 => (if t890 = true then (laws_FnExactChainWalks.j1 kj27 l2 l3 t847 t850 t865 (t868 != t850) a0_0 a0_1 l0_2 a1_0 a1_1) else (laws_FnExactChainWalks.j1 kj27 l2 l3 t847 t850 t865 true a0_0 a0_1 l0_2 a1_0 a1_1))))))) else (some false)))) else (some false))) = some r := H
   have A67 := Aside0.mk A670
   clear A670
   replace H := Option.bind_eq_some_iff.mp H
   obtain ⟨t879, A680, H⟩ := H
   replace H : (if t879 = true then ((laws_toIntS.f kj27 l3).bind fun t880 => ((laws_eqIntS.f kj27 t860 t880).bind fun t883 => (if t883 = true then ((laws_markBoard.f kj27 t851 t852 t853 1).bind fun bt884 => ((laws_markIntS.f kj27 t857 bt884.1).bind fun bt886 => ((laws_markIntS.f kj27 t860 bt886.1).bind fun bt888 => (if bt888.1 < 0 then (laws_FnExactChainWalks.j1 kj27 l2 l3 t847 t850 t865 true a0_0 a0_1 l0_2 a1_0 a1_1) else ((laws_eqIntS.f kj27 t865 t847).bind fun t890 => (if t890 = true then (laws_FnExactChainWalks.j1 kj27 l2 l3 t847 t850 t865 (t868 != t850) a0_0 a0_1 l0_2 a1_0 a1_1) else (laws_FnExactChainWalks.j1 kj27 l2 l3 t847 t850 t865 true a0_0 a0_1 l0_2 a1_0 a1_1))))))) else (some false)))) else (some false)) = some r := H
   have A68 := Aside0.mk A680
   clear A680
   by_cases c69 : t879 = true
   rotate_left
   ·replace c69 := Bool.eq_false_iff.mpr c69
    subst c69
    have H1 : (some false) = some r := by rw [if_neg (show ¬ (false = true) by decide)] at H; exact H
    clear H
    have H := H1
    clear H1
    obtain rfl := Option.some.inj H
    try go_wp2
    have n0_ := Aside0.mk (Kd.R_drew HO_10.out)
    have n1_ := Aside0.mk (Kd.R_drew HO_13.out)
    have n2_ := Aside0.mk (Kd.R_drew HO_14.out)
    have n3_ := Aside0.mk (Kd.R_drew HO_15.out)
    have n4_ := Aside0.mk (Kd.R_drew HO_857002.out)
    have n5_ := Aside0.mk (blk_drew BK831.out)
    have n6_ := Aside0.mk (blk_drew BK832.out)
    have n7_ := Aside0.mk (blk_drew BK856.out)
    have n8_ := Aside0.mk (below_drew1 HB.out)
    clear HO_10
    clear HO_13
    clear HO_14
    clear HO_15
    clear HO_857002
    clear BK831
    clear BK832
    clear BK856
    clear HB
    have HO_10 := n0_
    have HO_13 := n1_
    have HO_14 := n2_
    have HO_15 := n3_
    have HO_857002 := n4_
    have BK831 := n5_
    have BK832 := n6_
    have BK856 := n7_
    have HB := n8_
    clear n0_ n1_ n2_ n3_ n4_ n5_ n6_ n7_ n8_
    refine start_ (n := 5) (S := fun w' => w'.cell? ⟨gb856, 0, none⟩ = some (.int .i64 t851) ∧ w'.cell? ⟨gb856, 1, none⟩ = some (.int .i64 t852) ∧ w'.cell? ⟨gb856, 2, none⟩ = some (.slice Ao49 t853.length co49) ∧ w'.cell? ⟨gb831, 0, none⟩ = some (.int .i64 a0_0) ∧ w'.cell? ⟨gb831, 1, none⟩ = some (.int .i64 a0_1) ∧ w'.cell? ⟨gb831, 2, none⟩ = some (.slice A0_2 l0_2.length c0_2)) (ds := []) #[false, false, false, false, false] (by kernel_rfl) rfl rfl ⟨(blk_cell BK856.out 0).trans rfl, (blk_cell BK856.out 1).trans rfl, (blk_cell BK856.out 2).trans rfl, (blk_cell BK831.out 0).trans rfl, (blk_cell BK831.out 1).trans rfl, (blk_cell BK831.out 2).trans rfl⟩ (fun hHeld => ?_)
    generalize wc.drew = w142 at HO_10 HO_13 HO_14 HO_15 HO_857002 BK831 BK832 BK856 HB hHeld ⊢
    refine take_ (i := 0) (N := some 69) (v := ?_) (a' := ?_) #[true, false, false, false, false] rfl rfl (by kernel_rfl) (fun _ _ _ h => h) (Or.inl ⟨by rfl, ?_⟩) hHeld ?_ ?_
    rotate_left
    ·rintro w' ⟨s0, s1, s2, s3, s4, s5⟩
     go_simp
     with_reducible rfl
    rotate_left
    ·simp only [Act.put, List.setIfInBounds_toArray, List.set_cons_zero, List.set_cons_succ, i64_w, i32_w]
     rfl
    refine take_ (i := 1) (N := some 70) (v := ?_) (a' := ?_) #[true, true, false, false, false] rfl rfl (by kernel_rfl) (fun _ _ _ h => h) (Or.inl ⟨by rfl, ?_⟩) hHeld ?_ ?_
    rotate_left
    ·rintro w' ⟨s0, s1, s2, s3, s4, s5⟩
     go_simp
     with_reducible rfl
    rotate_left
    ·simp only [Act.put, List.setIfInBounds_toArray, List.set_cons_zero, List.set_cons_succ, i64_w, i32_w]
     rfl
    refine one_ (i := 2) (N := some 71) #[true, true, true, false, false] rfl rfl (by kernel_rfl) (by decide) (fun K hK => ?_)
    refine goes_ Try.func14 (by kernel_rfl) rfl #[.agg #[.int .i64 a0_0, .int .i64 a0_1, .slice A0_2 l0_2.length c0_2]] (by rfl) rfl rfl zaj2 ?_
    with_reducible refine (laws_toBoard.calls kj27 a0_0 a0_1 _ _ l0_2 t870 t871 t872 _ ?side1 ?side2 A64.out).mono ?_
    (case side1 => exact zaj15)
    (case side2 => exact HC0_2.out)
    rintro e w143 ⟨v873, rfl, ho0, hb⟩
    refine ⟨_, rfl, ?_⟩
    have n0_ := Aside0.mk (Kd.R_elder' zaj9 (Kd.R_base ho0) hb)
    have n1_ := Aside0.mk (Kd.R_elder' zaj11 (Kd.R_base ho0) hb)
    have n2_ := Aside0.mk (Kd.R_elder' zaj10 (Kd.R_base ho0) hb)
    have n3_ := Aside0.mk (Kd.R_elder' zaj8 (Kd.R_base ho0) hb)
    have n4_ := Aside0.mk (Kd.R_elder' zaj7 (Kd.R_base ho0) hb)
    have n5_ := Aside0.mk (Kd.R_lower (Kd.R_new' (Kd.R_new' (Kd.R_new' (Kd.R_new' (Kd.R_new' ho0 (Kd.R_lt zaj9)) (Kd.R_lt zaj11)) (Kd.R_lt zaj10)) (Kd.R_lt zaj8)) (Kd.R_lt zaj7)) (below_size zaj1))
    have n6_ := Aside0.mk (blk_below (g := gb831) (o := .cells #[.int .i64 a0_0, .int .i64 a0_1, .slice A0_2 l0_2.length c0_2] 24 (0, 0)) zaj3 hb)
    have n7_ := Aside0.mk (blk_below (g := gb832) (o := .cells #[.int .i64 a1_0, .int .i64 a1_1] 26 (0, 0)) zaj4 hb)
    have n8_ := Aside0.mk (blk_below (g := gb856) (o := .cells #[.int .i64 t851, .int .i64 t852, .slice Ao49 t853.length co49] 30 (0, 0)) zaj5 hb)
    have n9_ := Aside0.mk (below_step zaj1 hb)
    clear HO_10
    clear HO_13
    clear HO_14
    clear HO_15
    clear HO_857002
    clear BK831
    clear BK832
    clear BK856
    clear HB
    have HO_10 := n0_
    have HO_13 := n1_
    have HO_14 := n2_
    have HO_15 := n3_
    have HO_857002 := n4_
    have HO874 := n5_
    have BK831 := n6_
    have BK832 := n7_
    have BK856 := n8_
    have HB := n9_
    clear n0_ n1_ n2_ n3_ n4_ n5_ n6_ n7_ n8_ n9_
    (try clear hb)
    (try clear hb2)
    (try clear hk)
    (try clear hi)
    (try clear ho0)
    (try clear hna_)
    (try clear hnb_)
    obtain ⟨Ao144, co144, eo144⟩ := Kd.R_slice HO874.out
    (first | subst eo144 | (injection eo144 with f1_ f2_ f3_; have f4_ := f1_.symm; have f5_ := f3_.symm; clear f1_ f2_ f3_; subst f4_; subst f5_))
    refine hK.out _ _ ⟨(blk_cell BK856.out 0).trans rfl, (blk_cell BK856.out 1).trans rfl, (blk_cell BK856.out 2).trans rfl, (blk_cell BK831.out 0).trans rfl, (blk_cell BK831.out 1).trans rfl, (blk_cell BK831.out 2).trans rfl⟩ (fun hHeld => ?_)
    clear hK K
    refine norm_ (a' := ?_) ?_ ?_
    rotate_left
    ·show Act.put _ (some 71) _ = _
     simp only [Act.put, List.setIfInBounds_toArray, List.set_cons_zero, List.set_cons_succ, i64_w, i32_w]
     rfl
    refine one_ (i := 3) (N := some 72) #[true, true, true, true, false] rfl rfl (by kernel_rfl) (by decide) (fun K hK => ?_)
    refine goes_ Try.func19 (by kernel_rfl) rfl #[.agg #[.int .i64 t851, .int .i64 t852, .slice Ao49 t853.length co49], .agg #[.int .i64 t870, .int .i64 t871, .slice Ao144 t872.length co144]] (by rfl) rfl rfl zaj2 ?_
    with_reducible refine (laws_eqBoard.calls kj27 t851 t852 _ _ t853 t870 t871 _ _ t872 true _ ?side1 ?side2 ?side3 ?side4 A65.out).mono ?_
    (case side1 => exact zaj25)
    (case side2 => exact (Kd.R_reads' HO_857002.out).2.1)
    (case side3 => exact zaj27)
    (case side4 => exact (Kd.R_reads' HO874.out).2.1)
    rintro e w145 ⟨rfl, hb⟩
    refine ⟨_, rfl, ?_⟩
    have n0_ := Aside0.mk (Kd.R_below zaj9 hb)
    have n1_ := Aside0.mk (Kd.R_below zaj11 hb)
    have n2_ := Aside0.mk (Kd.R_below zaj10 hb)
    have n3_ := Aside0.mk (Kd.R_below zaj8 hb)
    have n4_ := Aside0.mk (Kd.R_below zaj7 hb)
    have n5_ := Aside0.mk (Kd.R_below zaj16 hb)
    have n6_ := Aside0.mk (blk_below (g := gb831) (o := .cells #[.int .i64 a0_0, .int .i64 a0_1, .slice A0_2 l0_2.length c0_2] 24 (0, 0)) zaj3 hb)
    have n7_ := Aside0.mk (blk_below (g := gb832) (o := .cells #[.int .i64 a1_0, .int .i64 a1_1] 26 (0, 0)) zaj4 hb)
    have n8_ := Aside0.mk (blk_below (g := gb856) (o := .cells #[.int .i64 t851, .int .i64 t852, .slice Ao49 t853.length co49] 30 (0, 0)) zaj5 hb)
    have n9_ := Aside0.mk (below_step zaj1 hb)
    clear HO_10
    clear HO_13
    clear HO_14
    clear HO_15
    clear HO_857002
    clear HO874
    clear BK831
    clear BK832
    clear BK856
    clear HB
    have HO_10 := n0_
    have HO_13 := n1_
    have HO_14 := n2_
    have HO_15 := n3_
    have HO_857002 := n4_
    have HO874 := n5_
    have BK831 := n6_
    have BK832 := n7_
    have BK856 := n8_
    have HB := n9_
    clear n0_ n1_ n2_ n3_ n4_ n5_ n6_ n7_ n8_ n9_
    (try clear hb)
    (try clear hb2)
    (try clear hk)
    (try clear hi)
    (try clear hna_)
    (try clear hnb_)
    refine hK.out _ _ ⟨(blk_cell BK856.out 0).trans rfl, (blk_cell BK856.out 1).trans rfl, (blk_cell BK856.out 2).trans rfl, (blk_cell BK831.out 0).trans rfl, (blk_cell BK831.out 1).trans rfl, (blk_cell BK831.out 2).trans rfl⟩ (fun hHeld => ?_)
    clear hK K
    refine norm_ (a' := ?_) ?_ ?_
    rotate_left
    ·show Act.put _ (some 72) _ = _
     simp only [Act.put, List.setIfInBounds_toArray, List.set_cons_zero, List.set_cons_succ, i64_w, i32_w]
     rfl
    refine pure_ (i := 4) (N := some 73) (v := ?_) (a' := ?_) #[true, true, true, true, true] rfl rfl (by kernel_rfl) (fun _ _ _ h => h) (Or.inl ⟨by rfl, ?_⟩) ?_ ?_
    rotate_left
    ·intro w'
     go_simp
     with_reducible rfl
    rotate_left
    ·simp only [Act.put, List.setIfInBounds_toArray, List.set_cons_zero, List.set_cons_succ, i64_w, i32_w]
     rfl
    refine done_ (by kernel_rfl) ?_
    try go_wp2_with (first | ((with_reducible refine gate_callee (f := 16) rfl ?_); refine goesL_ (some 76) rfl rfl Try.func16 (by kernel_rfl) rfl #[.slice A2 l2.length c2] rfl zaj2 ?_; (with_reducible refine (laws_toIntS.calls kj27 _ _ l2 t876 _ ?side1 ?side2 A67.out).mono ?_); (case side1 => exact zaj22); (case side2 => exact HC2.out); rintro e w146 ⟨v877, rfl, ho0, hb⟩; refine ⟨_, rfl, ?_⟩; have n0_ := Aside0.mk (Kd.R_elder' zaj9 (Kd.R_base ho0) hb); have n1_ := Aside0.mk (Kd.R_elder' zaj11 (Kd.R_base ho0) hb); have n2_ := Aside0.mk (Kd.R_elder' zaj10 (Kd.R_base ho0) hb); have n3_ := Aside0.mk (Kd.R_elder' zaj8 (Kd.R_base ho0) hb); have n4_ := Aside0.mk (Kd.R_elder' zaj7 (Kd.R_base ho0) hb); have n5_ := Aside0.mk (Kd.R_elder' zaj16 (Kd.R_base ho0) hb); have n6_ := Aside0.mk (Kd.R_lower (Kd.R_new' (Kd.R_new' (Kd.R_new' (Kd.R_new' (Kd.R_new' (Kd.R_new' ho0 (Kd.R_lt zaj9)) (Kd.R_lt zaj11)) (Kd.R_lt zaj10)) (Kd.R_lt zaj8)) (Kd.R_lt zaj7)) (Kd.R_lt zaj16)) (below_size zaj1)); have n7_ := Aside0.mk (blk_below (g := gb831) (o := .cells #[.int .i64 a0_0, .int .i64 a0_1, .slice A0_2 l0_2.length c0_2] 24 (0, 0)) zaj3 hb); have n8_ := Aside0.mk (blk_below (g := gb832) (o := .cells #[.int .i64 a1_0, .int .i64 a1_1] 26 (0, 0)) zaj4 hb); have n9_ := Aside0.mk (blk_below (g := gb856) (o := .cells #[.int .i64 t851, .int .i64 t852, .slice Ao49 t853.length co49] 30 (0, 0)) zaj5 hb); have n10_ := Aside0.mk (below_step zaj1 hb); clear HO_10; clear HO_13; clear HO_14; clear HO_15; clear HO_857002; clear HO874; clear BK831; clear BK832; clear BK856; clear HB; have HO_10 := n0_; have HO_13 := n1_; have HO_14 := n2_; have HO_15 := n3_; have HO_857002 := n4_; have HO874 := n5_; have HO878 := n6_; have BK831 := n7_; have BK832 := n8_; have BK856 := n9_; have HB := n10_; clear n0_ n1_ n2_ n3_ n4_ n5_ n6_ n7_ n8_ n9_ n10_; (try clear hb); (try clear hb2); (try clear hk); (try clear hi); (try clear ho0); (try clear hna_); (try clear hnb_); obtain ⟨Ao147, co147, eo147⟩ := Kd.R_slice HO878.out; subst eo147) | ((with_reducible refine gate_callee (f := 18) rfl ?_); refine goesL_ (some 77) rfl rfl Try.func18 (by kernel_rfl) rfl #[.slice Ao54 t857.length co54, .slice Ao147 t876.length co147] rfl zaj2 ?_; (with_reducible refine (laws_eqIntS.calls kj27 _ _ t857 _ _ t876 false _ ?side1 ?side2 ?side3 ?side4 A68.out).mono ?_); (case side1 => exact zaj35); (case side2 => exact (Kd.R_reads' HO_13.out).2.1); (case side3 => exact zaj36); (case side4 => exact (Kd.R_reads' HO878.out).2.1); rintro e w' ⟨rfl, ⟨nd, rfl⟩⟩; refine ⟨_, rfl, ?_⟩))
    go_ret
    exact ⟨zaj17, zaj1⟩
   subst c69
   have H1 : ((laws_toIntS.f kj27 l3).bind fun t880 => ((laws_eqIntS.f kj27 t860 t880).bind fun t883 => (if t883 = true then ((laws_markBoard.f kj27 t851 t852 t853 1).bind fun bt884 => ((laws_markIntS.f kj27 t857 bt884.1).bind fun bt886 => ((laws_markIntS.f kj27 t860 bt886.1).bind fun bt888 => (if bt888.1 < 0 then (laws_FnExactChainWalks.j1 kj27 l2 l3 t847 t850 t865 true a0_0 a0_1 l0_2 a1_0 a1_1) else ((laws_eqIntS.f kj27 t865 t847).bind fun t890 => (if t890 = true then (laws_FnExactChainWalks.j1 kj27 l2 l3 t847 t850 t865 (t868 != t850) a0_0 a0_1 l0_2 a1_0 a1_1) else (laws_FnExactChainWalks.j1 kj27 l2 l3 t847 t850 t865 true a0_0 a0_1 l0_2 a1_0 a1_1))))))) else (some false)))) = some r := by rw [if_pos rfl] at H; exact H
   clear H
   have H := H1
   clear H1
   replace H := Option.bind_eq_some_iff.mp H
   obtain ⟨t880, A700, H⟩ := H
   replace H : ((laws_eqIntS.f kj27 t860 t880).bind fun t883 => (if t883 = true then ((laws_markBoard.f kj27 t851 t852 t853 1).bind fun bt884 => ((laws_markIntS.f kj27 t857 bt884.1).bind fun bt886 => ((laws_markIntS.f kj27 t860 bt886.1).bind fun bt888 => (if bt888.1 < 0 then (laws_FnExactChainWalks.j1 kj27 l2 l3 t847 t850 t865 true a0_0 a0_1 l0_2 a1_0 a1_1) else ((laws_eqIntS.f kj27 t865 t847).bind fun t890 => (if t890 = true then (laws_FnExactChainWalks.j1 kj27 l2 l3 t847 t850 t865 (t868 != t850) a0_0 a0_1 l0_2 a1_0 a1_1) else (laws_FnExactChainWalks.j1 kj27 l2 l3 t847 t850 t865 true a0_0 a0_1 l0_2 a1_0 a1_1))))))) else (some false))) = some r := H
   have A70 := Aside0.mk A700
   clear A700
   replace H := Option.bind_eq_some_iff.mp H
   obtain ⟨t883, A710, H⟩ := H
   replace H : (if t883 = true then ((laws_markBoard.f kj27 t851 t852 t853 1).bind fun bt884 => ((laws_markIntS.f kj27 t857 bt884.1).bind fun bt886 => ((laws_markIntS.f kj27 t860 bt886.1).bind fun bt888 => (if bt888.1 < 0 then (laws_FnExactChainWalks.j1 kj27 l2 l3 t847 t850 t865 true a0_0 a0_1 l0_2 a1_0 a1_1) else ((laws_eqIntS.f kj27 t865 t847).bind fun t890 => (if t890 = true then (laws_FnExactChainWalks.j1 kj27 l2 l3 t847 t850 t865 (t868 != t850) a0_0 a0_1 l0_2 a1_0 a1_1) else (laws_FnExactChainWalks.j1 kj27 l2 l3 t847 t850 t865 true a0_0 a0_1 l0_2 a1_0 a1_1))))))) else (some false)) = some r := H
   have A71 := Aside0.mk A710
   clear A710
   by_cases c72 : t883 = true
   rotate_left
   ·replace c72 := Bool.eq_false_iff.mpr c72
    subst c72
    have H1 : (some false) = some r := by rw [if_neg (show ¬ (false = true) by decide)] at H; exact H
    clear H
    have H := H1
    clear H1
    obtain rfl := Option.some.inj H
    try go_wp2
    have n0_ := Aside0.mk (Kd.R_drew HO_10.out)
    have n1_ := Aside0.mk (Kd.R_drew HO_13.out)
    have n2_ := Aside0.mk (Kd.R_drew HO_14.out)
    have n3_ := Aside0.mk (Kd.R_drew HO_15.out)
    have n4_ := Aside0.mk (Kd.R_drew HO_857002.out)
    have n5_ := Aside0.mk (blk_drew BK831.out)
    have n6_ := Aside0.mk (blk_drew BK832.out)
    have n7_ := Aside0.mk (blk_drew BK856.out)
    have n8_ := Aside0.mk (below_drew1 HB.out)
    clear HO_10
    clear HO_13
    clear HO_14
    clear HO_15
    clear HO_857002
    clear BK831
    clear BK832
    clear BK856
    clear HB
    have HO_10 := n0_
    have HO_13 := n1_
    have HO_14 := n2_
    have HO_15 := n3_
    have HO_857002 := n4_
    have BK831 := n5_
    have BK832 := n6_
    have BK856 := n7_
    have HB := n8_
    clear n0_ n1_ n2_ n3_ n4_ n5_ n6_ n7_ n8_
    refine start_ (n := 5) (S := fun w' => w'.cell? ⟨gb856, 0, none⟩ = some (.int .i64 t851) ∧ w'.cell? ⟨gb856, 1, none⟩ = some (.int .i64 t852) ∧ w'.cell? ⟨gb856, 2, none⟩ = some (.slice Ao49 t853.length co49) ∧ w'.cell? ⟨gb831, 0, none⟩ = some (.int .i64 a0_0) ∧ w'.cell? ⟨gb831, 1, none⟩ = some (.int .i64 a0_1) ∧ w'.cell? ⟨gb831, 2, none⟩ = some (.slice A0_2 l0_2.length c0_2)) (ds := []) #[false, false, false, false, false] (by kernel_rfl) rfl rfl ⟨(blk_cell BK856.out 0).trans rfl, (blk_cell BK856.out 1).trans rfl, (blk_cell BK856.out 2).trans rfl, (blk_cell BK831.out 0).trans rfl, (blk_cell BK831.out 1).trans rfl, (blk_cell BK831.out 2).trans rfl⟩ (fun hHeld => ?_)
    generalize wc.drew = w134 at HO_10 HO_13 HO_14 HO_15 HO_857002 BK831 BK832 BK856 HB hHeld ⊢
    refine take_ (i := 0) (N := some 69) (v := ?_) (a' := ?_) #[true, false, false, false, false] rfl rfl (by kernel_rfl) (fun _ _ _ h => h) (Or.inl ⟨by rfl, ?_⟩) hHeld ?_ ?_
    rotate_left
    ·rintro w' ⟨s0, s1, s2, s3, s4, s5⟩
     go_simp
     with_reducible rfl
    rotate_left
    ·simp only [Act.put, List.setIfInBounds_toArray, List.set_cons_zero, List.set_cons_succ, i64_w, i32_w]
     rfl
    refine take_ (i := 1) (N := some 70) (v := ?_) (a' := ?_) #[true, true, false, false, false] rfl rfl (by kernel_rfl) (fun _ _ _ h => h) (Or.inl ⟨by rfl, ?_⟩) hHeld ?_ ?_
    rotate_left
    ·rintro w' ⟨s0, s1, s2, s3, s4, s5⟩
     go_simp
     with_reducible rfl
    rotate_left
    ·simp only [Act.put, List.setIfInBounds_toArray, List.set_cons_zero, List.set_cons_succ, i64_w, i32_w]
     rfl
    refine one_ (i := 2) (N := some 71) #[true, true, true, false, false] rfl rfl (by kernel_rfl) (by decide) (fun K hK => ?_)
    refine goes_ Try.func14 (by kernel_rfl) rfl #[.agg #[.int .i64 a0_0, .int .i64 a0_1, .slice A0_2 l0_2.length c0_2]] (by rfl) rfl rfl zaj2 ?_
    with_reducible refine (laws_toBoard.calls kj27 a0_0 a0_1 _ _ l0_2 t870 t871 t872 _ ?side1 ?side2 A64.out).mono ?_
    (case side1 => exact zaj15)
    (case side2 => exact HC0_2.out)
    rintro e w135 ⟨v873, rfl, ho0, hb⟩
    refine ⟨_, rfl, ?_⟩
    have n0_ := Aside0.mk (Kd.R_elder' zaj9 (Kd.R_base ho0) hb)
    have n1_ := Aside0.mk (Kd.R_elder' zaj11 (Kd.R_base ho0) hb)
    have n2_ := Aside0.mk (Kd.R_elder' zaj10 (Kd.R_base ho0) hb)
    have n3_ := Aside0.mk (Kd.R_elder' zaj8 (Kd.R_base ho0) hb)
    have n4_ := Aside0.mk (Kd.R_elder' zaj7 (Kd.R_base ho0) hb)
    have n5_ := Aside0.mk (Kd.R_lower (Kd.R_new' (Kd.R_new' (Kd.R_new' (Kd.R_new' (Kd.R_new' ho0 (Kd.R_lt zaj9)) (Kd.R_lt zaj11)) (Kd.R_lt zaj10)) (Kd.R_lt zaj8)) (Kd.R_lt zaj7)) (below_size zaj1))
    have n6_ := Aside0.mk (blk_below (g := gb831) (o := .cells #[.int .i64 a0_0, .int .i64 a0_1, .slice A0_2 l0_2.length c0_2] 24 (0, 0)) zaj3 hb)
    have n7_ := Aside0.mk (blk_below (g := gb832) (o := .cells #[.int .i64 a1_0, .int .i64 a1_1] 26 (0, 0)) zaj4 hb)
    have n8_ := Aside0.mk (blk_below (g := gb856) (o := .cells #[.int .i64 t851, .int .i64 t852, .slice Ao49 t853.length co49] 30 (0, 0)) zaj5 hb)
    have n9_ := Aside0.mk (below_step zaj1 hb)
    clear HO_10
    clear HO_13
    clear HO_14
    clear HO_15
    clear HO_857002
    clear BK831
    clear BK832
    clear BK856
    clear HB
    have HO_10 := n0_
    have HO_13 := n1_
    have HO_14 := n2_
    have HO_15 := n3_
    have HO_857002 := n4_
    have HO874 := n5_
    have BK831 := n6_
    have BK832 := n7_
    have BK856 := n8_
    have HB := n9_
    clear n0_ n1_ n2_ n3_ n4_ n5_ n6_ n7_ n8_ n9_
    (try clear hb)
    (try clear hb2)
    (try clear hk)
    (try clear hi)
    (try clear ho0)
    (try clear hna_)
    (try clear hnb_)
    obtain ⟨Ao136, co136, eo136⟩ := Kd.R_slice HO874.out
    (first | subst eo136 | (injection eo136 with f1_ f2_ f3_; have f4_ := f1_.symm; have f5_ := f3_.symm; clear f1_ f2_ f3_; subst f4_; subst f5_))
    refine hK.out _ _ ⟨(blk_cell BK856.out 0).trans rfl, (blk_cell BK856.out 1).trans rfl, (blk_cell BK856.out 2).trans rfl, (blk_cell BK831.out 0).trans rfl, (blk_cell BK831.out 1).trans rfl, (blk_cell BK831.out 2).trans rfl⟩ (fun hHeld => ?_)
    clear hK K
    refine norm_ (a' := ?_) ?_ ?_
    rotate_left
    ·show Act.put _ (some 71) _ = _
     simp only [Act.put, List.setIfInBounds_toArray, List.set_cons_zero, List.set_cons_succ, i64_w, i32_w]
     rfl
    refine one_ (i := 3) (N := some 72) #[true, true, true, true, false] rfl rfl (by kernel_rfl) (by decide) (fun K hK => ?_)
    refine goes_ Try.func19 (by kernel_rfl) rfl #[.agg #[.int .i64 t851, .int .i64 t852, .slice Ao49 t853.length co49], .agg #[.int .i64 t870, .int .i64 t871, .slice Ao136 t872.length co136]] (by rfl) rfl rfl zaj2 ?_
    with_reducible refine (laws_eqBoard.calls kj27 t851 t852 _ _ t853 t870 t871 _ _ t872 true _ ?side1 ?side2 ?side3 ?side4 A65.out).mono ?_
    (case side1 => exact zaj25)
    (case side2 => exact (Kd.R_reads' HO_857002.out).2.1)
    (case side3 => exact zaj27)
    (case side4 => exact (Kd.R_reads' HO874.out).2.1)
    rintro e w137 ⟨rfl, hb⟩
    refine ⟨_, rfl, ?_⟩
    have n0_ := Aside0.mk (Kd.R_below zaj9 hb)
    have n1_ := Aside0.mk (Kd.R_below zaj11 hb)
    have n2_ := Aside0.mk (Kd.R_below zaj10 hb)
    have n3_ := Aside0.mk (Kd.R_below zaj8 hb)
    have n4_ := Aside0.mk (Kd.R_below zaj7 hb)
    have n5_ := Aside0.mk (Kd.R_below zaj16 hb)
    have n6_ := Aside0.mk (blk_below (g := gb831) (o := .cells #[.int .i64 a0_0, .int .i64 a0_1, .slice A0_2 l0_2.length c0_2] 24 (0, 0)) zaj3 hb)
    have n7_ := Aside0.mk (blk_below (g := gb832) (o := .cells #[.int .i64 a1_0, .int .i64 a1_1] 26 (0, 0)) zaj4 hb)
    have n8_ := Aside0.mk (blk_below (g := gb856) (o := .cells #[.int .i64 t851, .int .i64 t852, .slice Ao49 t853.length co49] 30 (0, 0)) zaj5 hb)
    have n9_ := Aside0.mk (below_step zaj1 hb)
    clear HO_10
    clear HO_13
    clear HO_14
    clear HO_15
    clear HO_857002
    clear HO874
    clear BK831
    clear BK832
    clear BK856
    clear HB
    have HO_10 := n0_
    have HO_13 := n1_
    have HO_14 := n2_
    have HO_15 := n3_
    have HO_857002 := n4_
    have HO874 := n5_
    have BK831 := n6_
    have BK832 := n7_
    have BK856 := n8_
    have HB := n9_
    clear n0_ n1_ n2_ n3_ n4_ n5_ n6_ n7_ n8_ n9_
    (try clear hb)
    (try clear hb2)
    (try clear hk)
    (try clear hi)
    (try clear hna_)
    (try clear hnb_)
    refine hK.out _ _ ⟨(blk_cell BK856.out 0).trans rfl, (blk_cell BK856.out 1).trans rfl, (blk_cell BK856.out 2).trans rfl, (blk_cell BK831.out 0).trans rfl, (blk_cell BK831.out 1).trans rfl, (blk_cell BK831.out 2).trans rfl⟩ (fun hHeld => ?_)
    clear hK K
    refine norm_ (a' := ?_) ?_ ?_
    rotate_left
    ·show Act.put _ (some 72) _ = _
     simp only [Act.put, List.setIfInBounds_toArray, List.set_cons_zero, List.set_cons_succ, i64_w, i32_w]
     rfl
    refine pure_ (i := 4) (N := some 73) (v := ?_) (a' := ?_) #[true, true, true, true, true] rfl rfl (by kernel_rfl) (fun _ _ _ h => h) (Or.inl ⟨by rfl, ?_⟩) ?_ ?_
    rotate_left
    ·intro w'
     go_simp
     with_reducible rfl
    rotate_left
    ·simp only [Act.put, List.setIfInBounds_toArray, List.set_cons_zero, List.set_cons_succ, i64_w, i32_w]
     rfl
    refine done_ (by kernel_rfl) ?_
    try go_wp2_with (first | ((with_reducible refine gate_callee (f := 16) rfl ?_); refine goesL_ (some 76) rfl rfl Try.func16 (by kernel_rfl) rfl #[.slice A2 l2.length c2] rfl zaj2 ?_; (with_reducible refine (laws_toIntS.calls kj27 _ _ l2 t876 _ ?side1 ?side2 A67.out).mono ?_); (case side1 => exact zaj22); (case side2 => exact HC2.out); rintro e w138 ⟨v877, rfl, ho0, hb⟩; refine ⟨_, rfl, ?_⟩; have n0_ := Aside0.mk (Kd.R_elder' zaj9 (Kd.R_base ho0) hb); have n1_ := Aside0.mk (Kd.R_elder' zaj11 (Kd.R_base ho0) hb); have n2_ := Aside0.mk (Kd.R_elder' zaj10 (Kd.R_base ho0) hb); have n3_ := Aside0.mk (Kd.R_elder' zaj8 (Kd.R_base ho0) hb); have n4_ := Aside0.mk (Kd.R_elder' zaj7 (Kd.R_base ho0) hb); have n5_ := Aside0.mk (Kd.R_elder' zaj16 (Kd.R_base ho0) hb); have n6_ := Aside0.mk (Kd.R_lower (Kd.R_new' (Kd.R_new' (Kd.R_new' (Kd.R_new' (Kd.R_new' (Kd.R_new' ho0 (Kd.R_lt zaj9)) (Kd.R_lt zaj11)) (Kd.R_lt zaj10)) (Kd.R_lt zaj8)) (Kd.R_lt zaj7)) (Kd.R_lt zaj16)) (below_size zaj1)); have n7_ := Aside0.mk (blk_below (g := gb831) (o := .cells #[.int .i64 a0_0, .int .i64 a0_1, .slice A0_2 l0_2.length c0_2] 24 (0, 0)) zaj3 hb); have n8_ := Aside0.mk (blk_below (g := gb832) (o := .cells #[.int .i64 a1_0, .int .i64 a1_1] 26 (0, 0)) zaj4 hb); have n9_ := Aside0.mk (blk_below (g := gb856) (o := .cells #[.int .i64 t851, .int .i64 t852, .slice Ao49 t853.length co49] 30 (0, 0)) zaj5 hb); have n10_ := Aside0.mk (below_step zaj1 hb); clear HO_10; clear HO_13; clear HO_14; clear HO_15; clear HO_857002; clear HO874; clear BK831; clear BK832; clear BK856; clear HB; have HO_10 := n0_; have HO_13 := n1_; have HO_14 := n2_; have HO_15 := n3_; have HO_857002 := n4_; have HO874 := n5_; have HO878 := n6_; have BK831 := n7_; have BK832 := n8_; have BK856 := n9_; have HB := n10_; clear n0_ n1_ n2_ n3_ n4_ n5_ n6_ n7_ n8_ n9_ n10_; (try clear hb); (try clear hb2); (try clear hk); (try clear hi); (try clear ho0); (try clear hna_); (try clear hnb_); obtain ⟨Ao139, co139, eo139⟩ := Kd.R_slice HO878.out; subst eo139) | ((with_reducible refine gate_callee (f := 18) rfl ?_); refine goesL_ (some 77) rfl rfl Try.func18 (by kernel_rfl) rfl #[.slice Ao54 t857.length co54, .slice Ao139 t876.length co139] rfl zaj2 ?_; (with_reducible refine (laws_eqIntS.calls kj27 _ _ t857 _ _ t876 true _ ?side1 ?side2 ?side3 ?side4 A68.out).mono ?_); (case side1 => exact zaj35); (case side2 => exact (Kd.R_reads' HO_13.out).2.1); (case side3 => exact zaj36); (case side4 => exact (Kd.R_reads' HO878.out).2.1); rintro e w' ⟨rfl, ⟨nd, rfl⟩⟩; refine ⟨_, rfl, ?_⟩) | ((with_reducible refine gate_callee (f := 16) rfl ?_); refine goesL_ (some 81) rfl rfl Try.func16 (by kernel_rfl) rfl #[.slice A3 l3.length c3] rfl zaj2 ?_; (with_reducible refine (laws_toIntS.calls kj27 _ _ l3 t880 _ ?side1 ?side2 A70.out).mono ?_); (case side1 => exact zaj65); (case side2 => exact HC3.out); rintro e w140 ⟨v881, rfl, ho0, hb⟩; refine ⟨_, rfl, ?_⟩; have n0_ := Aside0.mk (Kd.R_elder' zaj9 (Kd.R_base ho0) hb); have n1_ := Aside0.mk (Kd.R_elder' zaj11 (Kd.R_base ho0) hb); have n2_ := Aside0.mk (Kd.R_elder' zaj10 (Kd.R_base ho0) hb); have n3_ := Aside0.mk (Kd.R_elder' zaj8 (Kd.R_base ho0) hb); have n4_ := Aside0.mk (Kd.R_elder' zaj7 (Kd.R_base ho0) hb); have n5_ := Aside0.mk (Kd.R_elder' zaj16 (Kd.R_base ho0) hb); have n6_ := Aside0.mk (Kd.R_elder' zaj41 (Kd.R_base ho0) hb); have n7_ := Aside0.mk (Kd.R_lower (Kd.R_new' (Kd.R_new' (Kd.R_new' (Kd.R_new' (Kd.R_new' (Kd.R_new' (Kd.R_new' ho0 (Kd.R_lt zaj9)) (Kd.R_lt zaj11)) (Kd.R_lt zaj10)) (Kd.R_lt zaj8)) (Kd.R_lt zaj7)) (Kd.R_lt zaj16)) (Kd.R_lt zaj41)) (below_size zaj1)); have n8_ := Aside0.mk (blk_below (g := gb831) (o := .cells #[.int .i64 a0_0, .int .i64 a0_1, .slice A0_2 l0_2.length c0_2] 24 (0, 0)) zaj3 hb); have n9_ := Aside0.mk (blk_below (g := gb832) (o := .cells #[.int .i64 a1_0, .int .i64 a1_1] 26 (0, 0)) zaj4 hb); have n10_ := Aside0.mk (blk_below (g := gb856) (o := .cells #[.int .i64 t851, .int .i64 t852, .slice Ao49 t853.length co49] 30 (0, 0)) zaj5 hb); have n11_ := Aside0.mk (below_step zaj1 hb); clear HO_10; clear HO_13; clear HO_14; clear HO_15; clear HO_857002; clear HO874; clear HO878; clear BK831; clear BK832; clear BK856; clear HB; have HO_10 := n0_; have HO_13 := n1_; have HO_14 := n2_; have HO_15 := n3_; have HO_857002 := n4_; have HO874 := n5_; have HO878 := n6_; have HO882 := n7_; have BK831 := n8_; have BK832 := n9_; have BK856 := n10_; have HB := n11_; clear n0_ n1_ n2_ n3_ n4_ n5_ n6_ n7_ n8_ n9_ n10_ n11_; (try clear hb); (try clear hb2); (try clear hk); (try clear hi); (try clear ho0); (try clear hna_); (try clear hnb_); obtain ⟨Ao141, co141, eo141⟩ := Kd.R_slice HO882.out; subst eo141) | ((with_reducible refine gate_callee (f := 18) rfl ?_); refine goesL_ (some 82) rfl rfl Try.func18 (by kernel_rfl) rfl #[.slice Ao55 t860.length co55, .slice Ao141 t880.length co141] rfl zaj2 ?_; (with_reducible refine (laws_eqIntS.calls kj27 _ _ t860 _ _ t880 false _ ?side1 ?side2 ?side3 ?side4 A71.out).mono ?_); (case side1 => exact zaj53); (case side2 => exact (Kd.R_reads' HO_14.out).2.1); (case side3 => exact zaj55); (case side4 => exact (Kd.R_reads' HO882.out).2.1); rintro e w' ⟨rfl, ⟨nd, rfl⟩⟩; refine ⟨_, rfl, ?_⟩))
    go_ret
    exact ⟨zaj17, zaj1⟩
   subst c72
   have H1 : ((laws_markBoard.f kj27 t851 t852 t853 1).bind fun bt884 => ((laws_markIntS.f kj27 t857 bt884.1).bind fun bt886 => ((laws_markIntS.f kj27 t860 bt886.1).bind fun bt888 => (if bt888.1 < 0 then (laws_FnExactChainWalks.j1 kj27 l2 l3 t847 t850 t865 true a0_0 a0_1 l0_2 a1_0 a1_1) else ((laws_eqIntS.f kj27 t865 t847).bind fun t890 => (if t890 = true then (laws_FnExactChainWalks.j1 kj27 l2 l3 t847 t850 t865 (t868 != t850) a0_0 a0_1 l0_2 a1_0 a1_1) else (laws_FnExactChainWalks.j1 kj27 l2 l3 t847 t850 t865 true a0_0 a0_1 l0_2 a1_0 a1_1))))))) = some r := by rw [if_pos rfl] at H; exact H
   clear H
   have H := H1
   clear H1
   replace H := Option.bind_eq_some_iff.mp H
   obtain ⟨⟨t884, t885⟩, A730, H⟩ := H
   replace H : ((laws_markIntS.f kj27 t857 t884).bind fun bt886 => ((laws_markIntS.f kj27 t860 bt886.1).bind fun bt888 => (if bt888.1 < 0 then (laws_FnExactChainWalks.j1 kj27 l2 l3 t847 t850 t865 true a0_0 a0_1 l0_2 a1_0 a1_1) else ((laws_eqIntS.f kj27 t865 t847).bind fun t890 => (if t890 = true then (laws_FnExactChainWalks.j1 kj27 l2 l3 t847 t850 t865 (t868 != t850) a0_0 a0_1 l0_2 a1_0 a1_1) else (laws_FnExactChainWalks.j1 kj27 l2 l3 t847 t850 t865 true a0_0 a0_1 l0_2 a1_0 a1_1)))))) = some r := H
   have A73 := Aside0.mk A730
   clear A730
   replace H := Option.bind_eq_some_iff.mp H
   obtain ⟨⟨t886, t887⟩, A740, H⟩ := H
   replace H : ((laws_markIntS.f kj27 t860 t886).bind fun bt888 => (if bt888.1 < 0 then (laws_FnExactChainWalks.j1 kj27 l2 l3 t847 t850 t865 true a0_0 a0_1 l0_2 a1_0 a1_1) else ((laws_eqIntS.f kj27 t865 t847).bind fun t890 => (if t890 = true then (laws_FnExactChainWalks.j1 kj27 l2 l3 t847 t850 t865 (t868 != t850) a0_0 a0_1 l0_2 a1_0 a1_1) else (laws_FnExactChainWalks.j1 kj27 l2 l3 t847 t850 t865 true a0_0 a0_1 l0_2 a1_0 a1_1))))) = some r := H
   have A74 := Aside0.mk A740
   clear A740
   replace H := Option.bind_eq_some_iff.mp H
   obtain ⟨⟨t888, t889⟩, A750, H⟩ := H
   replace H : (if t888 < 0 then (laws_FnExactChainWalks.j1 kj27 l2 l3 t847 t850 t865 true a0_0 a0_1 l0_2 a1_0 a1_1) else ((laws_eqIntS.f kj27 t865 t847).bind fun t890 => (if t890 = true then (laws_FnExactChainWalks.j1 kj27 l2 l3 t847 t850 t865 (t868 != t850) a0_0 a0_1 l0_2 a1_0 a1_1) else (laws_FnExactChainWalks.j1 kj27 l2 l3 t847 t850 t865 true a0_0 a0_1 l0_2 a1_0 a1_1)))) = some r := H
   have A75 := Aside0.mk A750
   clear A750
   have HC76 := Aside0.mk H
   clear H
   try go_wp2
   have n0_ := Aside0.mk (Kd.R_drew HO_10.out)
   have n1_ := Aside0.mk (Kd.R_drew HO_13.out)
   have n2_ := Aside0.mk (Kd.R_drew HO_14.out)
   have n3_ := Aside0.mk (Kd.R_drew HO_15.out)
   have n4_ := Aside0.mk (Kd.R_drew HO_857002.out)
   have n5_ := Aside0.mk (blk_drew BK831.out)
   have n6_ := Aside0.mk (blk_drew BK832.out)
   have n7_ := Aside0.mk (blk_drew BK856.out)
   have n8_ := Aside0.mk (below_drew1 HB.out)
   clear HO_10
   clear HO_13
   clear HO_14
   clear HO_15
   clear HO_857002
   clear BK831
   clear BK832
   clear BK856
   clear HB
   have HO_10 := n0_
   have HO_13 := n1_
   have HO_14 := n2_
   have HO_15 := n3_
   have HO_857002 := n4_
   have BK831 := n5_
   have BK832 := n6_
   have BK856 := n7_
   have HB := n8_
   clear n0_ n1_ n2_ n3_ n4_ n5_ n6_ n7_ n8_
   refine start_ (n := 5) (S := fun w' => w'.cell? ⟨gb856, 0, none⟩ = some (.int .i64 t851) ∧ w'.cell? ⟨gb856, 1, none⟩ = some (.int .i64 t852) ∧ w'.cell? ⟨gb856, 2, none⟩ = some (.slice Ao49 t853.length co49) ∧ w'.cell? ⟨gb831, 0, none⟩ = some (.int .i64 a0_0) ∧ w'.cell? ⟨gb831, 1, none⟩ = some (.int .i64 a0_1) ∧ w'.cell? ⟨gb831, 2, none⟩ = some (.slice A0_2 l0_2.length c0_2)) (ds := []) #[false, false, false, false, false] (by kernel_rfl) rfl rfl ⟨(blk_cell BK856.out 0).trans rfl, (blk_cell BK856.out 1).trans rfl, (blk_cell BK856.out 2).trans rfl, (blk_cell BK831.out 0).trans rfl, (blk_cell BK831.out 1).trans rfl, (blk_cell BK831.out 2).trans rfl⟩ (fun hHeld => ?_)
   generalize wc.drew = w77 at HO_10 HO_13 HO_14 HO_15 HO_857002 BK831 BK832 BK856 HB hHeld ⊢
   refine take_ (i := 0) (N := some 69) (v := ?_) (a' := ?_) #[true, false, false, false, false] rfl rfl (by kernel_rfl) (fun _ _ _ h => h) (Or.inl ⟨by rfl, ?_⟩) hHeld ?_ ?_
   rotate_left
   ·rintro w' ⟨s0, s1, s2, s3, s4, s5⟩
    go_simp
    with_reducible rfl
   rotate_left
   ·simp only [Act.put, List.setIfInBounds_toArray, List.set_cons_zero, List.set_cons_succ, i64_w, i32_w]
    rfl
   refine take_ (i := 1) (N := some 70) (v := ?_) (a' := ?_) #[true, true, false, false, false] rfl rfl (by kernel_rfl) (fun _ _ _ h => h) (Or.inl ⟨by rfl, ?_⟩) hHeld ?_ ?_
   rotate_left
   ·rintro w' ⟨s0, s1, s2, s3, s4, s5⟩
    go_simp
    with_reducible rfl
   rotate_left
   ·simp only [Act.put, List.setIfInBounds_toArray, List.set_cons_zero, List.set_cons_succ, i64_w, i32_w]
    rfl
   refine one_ (i := 2) (N := some 71) #[true, true, true, false, false] rfl rfl (by kernel_rfl) (by decide) (fun K hK => ?_)
   refine goes_ Try.func14 (by kernel_rfl) rfl #[.agg #[.int .i64 a0_0, .int .i64 a0_1, .slice A0_2 l0_2.length c0_2]] (by rfl) rfl rfl zaj2 ?_
   with_reducible refine (laws_toBoard.calls kj27 a0_0 a0_1 _ _ l0_2 t870 t871 t872 _ ?side1 ?side2 A64.out).mono ?_
   (case side1 => exact zaj15)
   (case side2 => exact HC0_2.out)
   rintro e w78 ⟨v873, rfl, ho0, hb⟩
   refine ⟨_, rfl, ?_⟩
   have n0_ := Aside0.mk (Kd.R_elder' zaj9 (Kd.R_base ho0) hb)
   have n1_ := Aside0.mk (Kd.R_elder' zaj11 (Kd.R_base ho0) hb)
   have n2_ := Aside0.mk (Kd.R_elder' zaj10 (Kd.R_base ho0) hb)
   have n3_ := Aside0.mk (Kd.R_elder' zaj8 (Kd.R_base ho0) hb)
   have n4_ := Aside0.mk (Kd.R_elder' zaj7 (Kd.R_base ho0) hb)
   have n5_ := Aside0.mk (Kd.R_lower (Kd.R_new' (Kd.R_new' (Kd.R_new' (Kd.R_new' (Kd.R_new' ho0 (Kd.R_lt zaj9)) (Kd.R_lt zaj11)) (Kd.R_lt zaj10)) (Kd.R_lt zaj8)) (Kd.R_lt zaj7)) (below_size zaj1))
   have n6_ := Aside0.mk (blk_below (g := gb831) (o := .cells #[.int .i64 a0_0, .int .i64 a0_1, .slice A0_2 l0_2.length c0_2] 24 (0, 0)) zaj3 hb)
   have n7_ := Aside0.mk (blk_below (g := gb832) (o := .cells #[.int .i64 a1_0, .int .i64 a1_1] 26 (0, 0)) zaj4 hb)
   have n8_ := Aside0.mk (blk_below (g := gb856) (o := .cells #[.int .i64 t851, .int .i64 t852, .slice Ao49 t853.length co49] 30 (0, 0)) zaj5 hb)
   have n9_ := Aside0.mk (below_step zaj1 hb)
   clear HO_10
   clear HO_13
   clear HO_14
   clear HO_15
   clear HO_857002
   clear BK831
   clear BK832
   clear BK856
   clear HB
   have HO_10 := n0_
   have HO_13 := n1_
   have HO_14 := n2_
   have HO_15 := n3_
   have HO_857002 := n4_
   have HO874 := n5_
   have BK831 := n6_
   have BK832 := n7_
   have BK856 := n8_
   have HB := n9_
   clear n0_ n1_ n2_ n3_ n4_ n5_ n6_ n7_ n8_ n9_
   (try clear hb)
   (try clear hb2)
   (try clear hk)
   (try clear hi)
   (try clear ho0)
   (try clear hna_)
   (try clear hnb_)
   obtain ⟨Ao79, co79, eo79⟩ := Kd.R_slice HO874.out
   (first | subst eo79 | (injection eo79 with f1_ f2_ f3_; have f4_ := f1_.symm; have f5_ := f3_.symm; clear f1_ f2_ f3_; subst f4_; subst f5_))
   refine hK.out _ _ ⟨(blk_cell BK856.out 0).trans rfl, (blk_cell BK856.out 1).trans rfl, (blk_cell BK856.out 2).trans rfl, (blk_cell BK831.out 0).trans rfl, (blk_cell BK831.out 1).trans rfl, (blk_cell BK831.out 2).trans rfl⟩ (fun hHeld => ?_)
   clear hK K
   refine norm_ (a' := ?_) ?_ ?_
   rotate_left
   ·show Act.put _ (some 71) _ = _
    simp only [Act.put, List.setIfInBounds_toArray, List.set_cons_zero, List.set_cons_succ, i64_w, i32_w]
    rfl
   refine one_ (i := 3) (N := some 72) #[true, true, true, true, false] rfl rfl (by kernel_rfl) (by decide) (fun K hK => ?_)
   refine goes_ Try.func19 (by kernel_rfl) rfl #[.agg #[.int .i64 t851, .int .i64 t852, .slice Ao49 t853.length co49], .agg #[.int .i64 t870, .int .i64 t871, .slice Ao79 t872.length co79]] (by rfl) rfl rfl zaj2 ?_
   with_reducible refine (laws_eqBoard.calls kj27 t851 t852 _ _ t853 t870 t871 _ _ t872 true _ ?side1 ?side2 ?side3 ?side4 A65.out).mono ?_
   (case side1 => exact zaj25)
   (case side2 => exact (Kd.R_reads' HO_857002.out).2.1)
   (case side3 => exact zaj27)
   (case side4 => exact (Kd.R_reads' HO874.out).2.1)
   rintro e w80 ⟨rfl, hb⟩
   refine ⟨_, rfl, ?_⟩
   have n0_ := Aside0.mk (Kd.R_below zaj9 hb)
   have n1_ := Aside0.mk (Kd.R_below zaj11 hb)
   have n2_ := Aside0.mk (Kd.R_below zaj10 hb)
   have n3_ := Aside0.mk (Kd.R_below zaj8 hb)
   have n4_ := Aside0.mk (Kd.R_below zaj7 hb)
   have n5_ := Aside0.mk (Kd.R_below zaj16 hb)
   have n6_ := Aside0.mk (blk_below (g := gb831) (o := .cells #[.int .i64 a0_0, .int .i64 a0_1, .slice A0_2 l0_2.length c0_2] 24 (0, 0)) zaj3 hb)
   have n7_ := Aside0.mk (blk_below (g := gb832) (o := .cells #[.int .i64 a1_0, .int .i64 a1_1] 26 (0, 0)) zaj4 hb)
   have n8_ := Aside0.mk (blk_below (g := gb856) (o := .cells #[.int .i64 t851, .int .i64 t852, .slice Ao49 t853.length co49] 30 (0, 0)) zaj5 hb)
   have n9_ := Aside0.mk (below_step zaj1 hb)
   clear HO_10
   clear HO_13
   clear HO_14
   clear HO_15
   clear HO_857002
   clear HO874
   clear BK831
   clear BK832
   clear BK856
   clear HB
   have HO_10 := n0_
   have HO_13 := n1_
   have HO_14 := n2_
   have HO_15 := n3_
   have HO_857002 := n4_
   have HO874 := n5_
   have BK831 := n6_
   have BK832 := n7_
   have BK856 := n8_
   have HB := n9_
   clear n0_ n1_ n2_ n3_ n4_ n5_ n6_ n7_ n8_ n9_
   (try clear hb)
   (try clear hb2)
   (try clear hk)
   (try clear hi)
   (try clear hna_)
   (try clear hnb_)
   refine hK.out _ _ ⟨(blk_cell BK856.out 0).trans rfl, (blk_cell BK856.out 1).trans rfl, (blk_cell BK856.out 2).trans rfl, (blk_cell BK831.out 0).trans rfl, (blk_cell BK831.out 1).trans rfl, (blk_cell BK831.out 2).trans rfl⟩ (fun hHeld => ?_)
   clear hK K
   refine norm_ (a' := ?_) ?_ ?_
   rotate_left
   ·show Act.put _ (some 72) _ = _
    simp only [Act.put, List.setIfInBounds_toArray, List.set_cons_zero, List.set_cons_succ, i64_w, i32_w]
    rfl
   refine pure_ (i := 4) (N := some 73) (v := ?_) (a' := ?_) #[true, true, true, true, true] rfl rfl (by kernel_rfl) (fun _ _ _ h => h) (Or.inl ⟨by rfl, ?_⟩) ?_ ?_
   rotate_left
   ·intro w'
    go_simp
    with_reducible rfl
   rotate_left
   ·simp only [Act.put, List.setIfInBounds_toArray, List.set_cons_zero, List.set_cons_succ, i64_w, i32_w]
    rfl
   refine done_ (by kernel_rfl) ?_
   go_upto_region 26 with (first | ((with_reducible refine gate_callee (f := 16) rfl ?_); refine goesL_ (some 76) rfl rfl Try.func16 (by kernel_rfl) rfl #[.slice A2 l2.length c2] rfl zaj2 ?_; (with_reducible refine (laws_toIntS.calls kj27 _ _ l2 t876 _ ?side1 ?side2 A67.out).mono ?_); (case side1 => exact zaj22); (case side2 => exact HC2.out); rintro e w81 ⟨v877, rfl, ho0, hb⟩; refine ⟨_, rfl, ?_⟩; have n0_ := Aside0.mk (Kd.R_elder' zaj9 (Kd.R_base ho0) hb); have n1_ := Aside0.mk (Kd.R_elder' zaj11 (Kd.R_base ho0) hb); have n2_ := Aside0.mk (Kd.R_elder' zaj10 (Kd.R_base ho0) hb); have n3_ := Aside0.mk (Kd.R_elder' zaj8 (Kd.R_base ho0) hb); have n4_ := Aside0.mk (Kd.R_elder' zaj7 (Kd.R_base ho0) hb); have n5_ := Aside0.mk (Kd.R_elder' zaj16 (Kd.R_base ho0) hb); have n6_ := Aside0.mk (Kd.R_lower (Kd.R_new' (Kd.R_new' (Kd.R_new' (Kd.R_new' (Kd.R_new' (Kd.R_new' ho0 (Kd.R_lt zaj9)) (Kd.R_lt zaj11)) (Kd.R_lt zaj10)) (Kd.R_lt zaj8)) (Kd.R_lt zaj7)) (Kd.R_lt zaj16)) (below_size zaj1)); have n7_ := Aside0.mk (blk_below (g := gb831) (o := .cells #[.int .i64 a0_0, .int .i64 a0_1, .slice A0_2 l0_2.length c0_2] 24 (0, 0)) zaj3 hb); have n8_ := Aside0.mk (blk_below (g := gb832) (o := .cells #[.int .i64 a1_0, .int .i64 a1_1] 26 (0, 0)) zaj4 hb); have n9_ := Aside0.mk (blk_below (g := gb856) (o := .cells #[.int .i64 t851, .int .i64 t852, .slice Ao49 t853.length co49] 30 (0, 0)) zaj5 hb); have n10_ := Aside0.mk (below_step zaj1 hb); clear HO_10; clear HO_13; clear HO_14; clear HO_15; clear HO_857002; clear HO874; clear BK831; clear BK832; clear BK856; clear HB; have HO_10 := n0_; have HO_13 := n1_; have HO_14 := n2_; have HO_15 := n3_; have HO_857002 := n4_; have HO874 := n5_; have HO878 := n6_; have BK831 := n7_; have BK832 := n8_; have BK856 := n9_; have HB := n10_; clear n0_ n1_ n2_ n3_ n4_ n5_ n6_ n7_ n8_ n9_ n10_; (try clear hb); (try clear hb2); (try clear hk); (try clear hi); (try clear ho0); (try clear hna_); (try clear hnb_); obtain ⟨Ao82, co82, eo82⟩ := Kd.R_slice HO878.out; subst eo82) | ((with_reducible refine gate_callee (f := 18) rfl ?_); refine goesL_ (some 77) rfl rfl Try.func18 (by kernel_rfl) rfl #[.slice Ao54 t857.length co54, .slice Ao82 t876.length co82] rfl zaj2 ?_; (with_reducible refine (laws_eqIntS.calls kj27 _ _ t857 _ _ t876 true _ ?side1 ?side2 ?side3 ?side4 A68.out).mono ?_); (case side1 => exact zaj35); (case side2 => exact (Kd.R_reads' HO_13.out).2.1); (case side3 => exact zaj36); (case side4 => exact (Kd.R_reads' HO878.out).2.1); rintro e w' ⟨rfl, ⟨nd, rfl⟩⟩; refine ⟨_, rfl, ?_⟩) | ((with_reducible refine gate_callee (f := 16) rfl ?_); refine goesL_ (some 81) rfl rfl Try.func16 (by kernel_rfl) rfl #[.slice A3 l3.length c3] rfl zaj2 ?_; (with_reducible refine (laws_toIntS.calls kj27 _ _ l3 t880 _ ?side1 ?side2 A70.out).mono ?_); (case side1 => exact zaj65); (case side2 => exact HC3.out); rintro e w83 ⟨v881, rfl, ho0, hb⟩; refine ⟨_, rfl, ?_⟩; have n0_ := Aside0.mk (Kd.R_elder' zaj9 (Kd.R_base ho0) hb); have n1_ := Aside0.mk (Kd.R_elder' zaj11 (Kd.R_base ho0) hb); have n2_ := Aside0.mk (Kd.R_elder' zaj10 (Kd.R_base ho0) hb); have n3_ := Aside0.mk (Kd.R_elder' zaj8 (Kd.R_base ho0) hb); have n4_ := Aside0.mk (Kd.R_elder' zaj7 (Kd.R_base ho0) hb); have n5_ := Aside0.mk (Kd.R_elder' zaj16 (Kd.R_base ho0) hb); have n6_ := Aside0.mk (Kd.R_elder' zaj41 (Kd.R_base ho0) hb); have n7_ := Aside0.mk (Kd.R_lower (Kd.R_new' (Kd.R_new' (Kd.R_new' (Kd.R_new' (Kd.R_new' (Kd.R_new' (Kd.R_new' ho0 (Kd.R_lt zaj9)) (Kd.R_lt zaj11)) (Kd.R_lt zaj10)) (Kd.R_lt zaj8)) (Kd.R_lt zaj7)) (Kd.R_lt zaj16)) (Kd.R_lt zaj41)) (below_size zaj1)); have n8_ := Aside0.mk (blk_below (g := gb831) (o := .cells #[.int .i64 a0_0, .int .i64 a0_1, .slice A0_2 l0_2.length c0_2] 24 (0, 0)) zaj3 hb); have n9_ := Aside0.mk (blk_below (g := gb832) (o := .cells #[.int .i64 a1_0, .int .i64 a1_1] 26 (0, 0)) zaj4 hb); have n10_ := Aside0.mk (blk_below (g := gb856) (o := .cells #[.int .i64 t851, .int .i64 t852, .slice Ao49 t853.length co49] 30 (0, 0)) zaj5 hb); have n11_ := Aside0.mk (below_step zaj1 hb); clear HO_10; clear HO_13; clear HO_14; clear HO_15; clear HO_857002; clear HO874; clear HO878; clear BK831; clear BK832; clear BK856; clear HB; have HO_10 := n0_; have HO_13 := n1_; have HO_14 := n2_; have HO_15 := n3_; have HO_857002 := n4_; have HO874 := n5_; have HO878 := n6_; have HO882 := n7_; have BK831 := n8_; have BK832 := n9_; have BK856 := n10_; have HB := n11_; clear n0_ n1_ n2_ n3_ n4_ n5_ n6_ n7_ n8_ n9_ n10_ n11_; (try clear hb); (try clear hb2); (try clear hk); (try clear hi); (try clear ho0); (try clear hna_); (try clear hnb_); obtain ⟨Ao84, co84, eo84⟩ := Kd.R_slice HO882.out; subst eo84) | ((with_reducible refine gate_callee (f := 18) rfl ?_); refine goesL_ (some 82) rfl rfl Try.func18 (by kernel_rfl) rfl #[.slice Ao55 t860.length co55, .slice Ao84 t880.length co84] rfl zaj2 ?_; (with_reducible refine (laws_eqIntS.calls kj27 _ _ t860 _ _ t880 true _ ?side1 ?side2 ?side3 ?side4 A71.out).mono ?_); (case side1 => exact zaj53); (case side2 => exact (Kd.R_reads' HO_14.out).2.1); (case side3 => exact zaj55); (case side4 => exact (Kd.R_reads' HO882.out).2.1); rintro e w' ⟨rfl, ⟨nd, rfl⟩⟩; refine ⟨_, rfl, ?_⟩; have hnb85 := NB856_831.out; have hnc85 := NB831_856.out; have hnb86 := NB856_832.out; have hnc86 := NB832_856.out; have hcz87_0 : w83.cell? ⟨gb856, 0, none⟩ = some (.int .i64 t851) := (blk_cell BK856.out 0).trans rfl; have hcz87_1 : w83.cell? ⟨gb856, 1, none⟩ = some (.int .i64 t852) := (blk_cell BK856.out 1).trans rfl; have hcz87_2 : w83.cell? ⟨gb856, 2, none⟩ = some (.slice Ao49 t853.length co49) := (blk_cell BK856.out 2).trans rfl; have hfz87_0 := blk_frozen BK856.out 0; have hfz87_1 := blk_frozen BK856.out 1; have hfz87_2 := blk_frozen BK856.out 2) | ((with_reducible refine gate_callee (f := 20) rfl ?_); refine goesL_ (some 86) rfl rfl Try.func20 (by kernel_rfl) rfl #[.agg #[.int .i64 t851, .int .i64 t852, .slice Ao49 t853.length co49], .int .i64 1] rfl zaj2 ?_; (with_reducible refine (laws_markBoard.calls kj27 t851 t852 (fun k_ => some k_ = (.slice Ao49 t853.length co49 : Value).ownBlock) (.slice Ao49 t853.length co49) t853 1 t884 t885 w _ ?side1 ?side2 A73.out).mono ?_); (case side1 => exact zaj1); (case side2 => exact Kd.R_tight rfl HO_857002.out); rintro e w88 ⟨rfl, hy0, hb, hkp⟩; refine ⟨_, rfl, ?_⟩; have n0_ := Aside0.mk (Kd.R_mono (ok' := fun k_ => some k_ ≠ (.slice Ao54 t857.length co54 : Value).ownBlock ∧ some k_ ≠ (.slice Ao55 t860.length co55 : Value).ownBlock ∧ some k_ ≠ (v866 : Value).ownBlock ∧ some k_ ≠ (.slice Ao49 t853.length co49 : Value).ownBlock ∧ some k_ ≠ (.slice Ao79 t872.length co79 : Value).ownBlock ∧ some k_ ≠ (.slice Ao82 t876.length co82 : Value).ownBlock ∧ some k_ ≠ (.slice Ao84 t880.length co84 : Value).ownBlock) (Kd.R_keptB (HO_10.out) hkp (fun k_ hk_ hs_ => (hk_.1.1.1.2.2.2) hs_)) (fun k_ hk_ => ⟨hk_.1.1.1.1.1, hk_.1.1.1.1.2.1, hk_.1.1.1.1.2.2.1, hk_.1.1.1.1.2.2.2, hk_.1.1.1.2, hk_.1.1.2, hk_.1.2⟩)); have n1_ := Aside0.mk (Kd.R_mono (ok' := fun k_ => some k_ ≠ (v848 : Value).ownBlock ∧ some k_ ≠ (.slice Ao55 t860.length co55 : Value).ownBlock ∧ some k_ ≠ (v866 : Value).ownBlock ∧ some k_ ≠ (.slice Ao49 t853.length co49 : Value).ownBlock ∧ some k_ ≠ (.slice Ao79 t872.length co79 : Value).ownBlock ∧ some k_ ≠ (.slice Ao82 t876.length co82 : Value).ownBlock ∧ some k_ ≠ (.slice Ao84 t880.length co84 : Value).ownBlock) (Kd.R_keptB (HO_13.out) hkp (fun k_ hk_ hs_ => (hk_.1.1.1.2.2.2) hs_)) (fun k_ hk_ => ⟨hk_.1.1.1.1.1, hk_.1.1.1.1.2.1, hk_.1.1.1.1.2.2.1, hk_.1.1.1.1.2.2.2, hk_.1.1.1.2, hk_.1.1.2, hk_.1.2⟩)); have n2_ := Aside0.mk (Kd.R_mono (ok' := fun k_ => some k_ ≠ (v848 : Value).ownBlock ∧ some k_ ≠ (.slice Ao54 t857.length co54 : Value).ownBlock ∧ some k_ ≠ (v866 : Value).ownBlock ∧ some k_ ≠ (.slice Ao49 t853.length co49 : Value).ownBlock ∧ some k_ ≠ (.slice Ao79 t872.length co79 : Value).ownBlock ∧ some k_ ≠ (.slice Ao82 t876.length co82 : Value).ownBlock ∧ some k_ ≠ (.slice Ao84 t880.length co84 : Value).ownBlock) (Kd.R_keptB (HO_14.out) hkp (fun k_ hk_ hs_ => (hk_.1.1.1.2.2.2) hs_)) (fun k_ hk_ => ⟨hk_.1.1.1.1.1, hk_.1.1.1.1.2.1, hk_.1.1.1.1.2.2.1, hk_.1.1.1.1.2.2.2, hk_.1.1.1.2, hk_.1.1.2, hk_.1.2⟩)); have n3_ := Aside0.mk (Kd.R_mono (ok' := fun k_ => some k_ ≠ (v848 : Value).ownBlock ∧ some k_ ≠ (.slice Ao54 t857.length co54 : Value).ownBlock ∧ some k_ ≠ (.slice Ao55 t860.length co55 : Value).ownBlock ∧ some k_ ≠ (.slice Ao49 t853.length co49 : Value).ownBlock ∧ some k_ ≠ (.slice Ao79 t872.length co79 : Value).ownBlock ∧ some k_ ≠ (.slice Ao82 t876.length co82 : Value).ownBlock ∧ some k_ ≠ (.slice Ao84 t880.length co84 : Value).ownBlock) (Kd.R_keptB (HO_15.out) hkp (fun k_ hk_ hs_ => (hk_.1.1.1.2.2.2) hs_)) (fun k_ hk_ => ⟨hk_.1.1.1.1.1, hk_.1.1.1.1.2.1, hk_.1.1.1.1.2.2.1, hk_.1.1.1.1.2.2.2, hk_.1.1.1.2, hk_.1.1.2, hk_.1.2⟩)); have n4_ := Aside0.mk (Kd.R_reok rfl hy0 (fun k_ e_ => HO_857002.out.1 k_ e_)); have n5_ := Aside0.mk (blk_kept zaj3 hkp (fun hs_ => (fun e_ => (Kd.R_ne HO_857002.out BK831.out (by decide)) e_) hs_)); have n6_ := Aside0.mk (blk_kept zaj4 hkp (fun hs_ => (fun e_ => (Kd.R_ne HO_857002.out BK832.out (by decide)) e_) hs_)); have n7_ := Aside0.mk (blk_kept zaj5 hkp (fun hs_ => (fun e_ => (Kd.R_ne HO_857002.out BK856.out (by decide)) e_) hs_)); have n8_ := Aside0.mk (Kd.R_mono (ok' := fun k_ => some k_ ≠ (v848 : Value).ownBlock ∧ some k_ ≠ (.slice Ao54 t857.length co54 : Value).ownBlock ∧ some k_ ≠ (.slice Ao55 t860.length co55 : Value).ownBlock ∧ some k_ ≠ (v866 : Value).ownBlock ∧ some k_ ≠ (.slice Ao49 t853.length co49 : Value).ownBlock ∧ some k_ ≠ (.slice Ao82 t876.length co82 : Value).ownBlock ∧ some k_ ≠ (.slice Ao84 t880.length co84 : Value).ownBlock) (Kd.R_keptB (HO874.out) hkp (fun k_ hk_ hs_ => (hk_.1.1.2) hs_)) (fun k_ hk_ => ⟨hk_.1.1.1.1.1.1.1.2, hk_.1.1.1.1.1.1.2, hk_.1.1.1.1.1.2, hk_.1.1.1.1.2, hk_.1.1.1.2, hk_.1.1.2, hk_.1.2⟩)); have n9_ := Aside0.mk (Kd.R_mono (ok' := fun k_ => some k_ ≠ (v848 : Value).ownBlock ∧ some k_ ≠ (.slice Ao54 t857.length co54 : Value).ownBlock ∧ some k_ ≠ (.slice Ao55 t860.length co55 : Value).ownBlock ∧ some k_ ≠ (v866 : Value).ownBlock ∧ some k_ ≠ (.slice Ao49 t853.length co49 : Value).ownBlock ∧ some k_ ≠ (.slice Ao79 t872.length co79 : Value).ownBlock ∧ some k_ ≠ (.slice Ao84 t880.length co84 : Value).ownBlock) (Kd.R_keptB (HO878.out) hkp (fun k_ hk_ hs_ => (hk_.1.1.2) hs_)) (fun k_ hk_ => ⟨hk_.1.1.1.1.1.1.1.2, hk_.1.1.1.1.1.1.2, hk_.1.1.1.1.1.2, hk_.1.1.1.1.2, hk_.1.1.1.2, hk_.1.1.2, hk_.1.2⟩)); have n10_ := Aside0.mk (Kd.R_mono (ok' := fun k_ => some k_ ≠ (v848 : Value).ownBlock ∧ some k_ ≠ (.slice Ao54 t857.length co54 : Value).ownBlock ∧ some k_ ≠ (.slice Ao55 t860.length co55 : Value).ownBlock ∧ some k_ ≠ (v866 : Value).ownBlock ∧ some k_ ≠ (.slice Ao49 t853.length co49 : Value).ownBlock ∧ some k_ ≠ (.slice Ao79 t872.length co79 : Value).ownBlock ∧ some k_ ≠ (.slice Ao82 t876.length co82 : Value).ownBlock) (Kd.R_keptB (HO882.out) hkp (fun k_ hk_ hs_ => (hk_.1.1.2) hs_)) (fun k_ hk_ => ⟨hk_.1.1.1.1.1.1.1.2, hk_.1.1.1.1.1.1.2, hk_.1.1.1.1.1.2, hk_.1.1.1.1.2, hk_.1.1.1.2, hk_.1.1.2, hk_.1.2⟩)); have n11_ := Aside0.mk (hb); clear HO_10; clear HO_13; clear HO_14; clear HO_15; clear HO_857002; clear BK831; clear BK832; clear BK856; clear HO874; clear HO878; clear HO882; clear HB; have HO_10 := n0_; have HO_13 := n1_; have HO_14 := n2_; have HO_15 := n3_; have HO_857002 := n4_; have BK831 := n5_; have BK832 := n6_; have BK856 := n7_; have HO874 := n8_; have HO878 := n9_; have HO882 := n10_; have HB := n11_; clear n0_ n1_ n2_ n3_ n4_ n5_ n6_ n7_ n8_ n9_ n10_ n11_; (try clear hb); (try clear hkp); (try clear hy0)) | ((with_reducible refine gate_callee (f := 21) rfl ?_); refine goesL_ (some 89) rfl rfl Try.func21 (by kernel_rfl) rfl #[.slice Ao54 t857.length co54, .int .i64 t884] rfl zaj2 ?_; (with_reducible refine (laws_markIntS.calls kj27 (fun k_ => some k_ = (.slice Ao54 t857.length co54 : Value).ownBlock) (.slice Ao54 t857.length co54) t857 t884 t886 t887 w _ ?side1 ?side2 A74.out).mono ?_); (case side1 => exact zaj1); (case side2 => exact Kd.R_tight rfl HO_13.out); rintro e w89 ⟨rfl, hy0, hb, hkp⟩; refine ⟨_, rfl, ?_⟩; have n0_ := Aside0.mk (Kd.R_mono (ok' := fun k_ => some k_ ≠ (.slice Ao54 t857.length co54 : Value).ownBlock ∧ some k_ ≠ (.slice Ao55 t860.length co55 : Value).ownBlock ∧ some k_ ≠ (v866 : Value).ownBlock ∧ some k_ ≠ (.slice Ao49 t853.length co49 : Value).ownBlock ∧ some k_ ≠ (.slice Ao79 t872.length co79 : Value).ownBlock ∧ some k_ ≠ (.slice Ao82 t876.length co82 : Value).ownBlock ∧ some k_ ≠ (.slice Ao84 t880.length co84 : Value).ownBlock) (Kd.R_keptB (HO_10.out) hkp (fun k_ hk_ hs_ => (hk_.1) hs_)) (fun k_ hk_ => ⟨hk_.1.1, hk_.1.2.1, hk_.1.2.2.1, hk_.1.2.2.2.1, hk_.1.2.2.2.2.1, hk_.1.2.2.2.2.2.1, hk_.1.2.2.2.2.2.2⟩)); have n1_ := Aside0.mk (Kd.R_reok rfl hy0 (fun k_ e_ => HO_13.out.1 k_ e_)); have n2_ := Aside0.mk (Kd.R_mono (ok' := fun k_ => some k_ ≠ (v848 : Value).ownBlock ∧ some k_ ≠ (.slice Ao54 t857.length co54 : Value).ownBlock ∧ some k_ ≠ (v866 : Value).ownBlock ∧ some k_ ≠ (.slice Ao49 t853.length co49 : Value).ownBlock ∧ some k_ ≠ (.slice Ao79 t872.length co79 : Value).ownBlock ∧ some k_ ≠ (.slice Ao82 t876.length co82 : Value).ownBlock ∧ some k_ ≠ (.slice Ao84 t880.length co84 : Value).ownBlock) (Kd.R_keptB (HO_14.out) hkp (fun k_ hk_ hs_ => (hk_.2.1) hs_)) (fun k_ hk_ => ⟨hk_.1.1, hk_.1.2.1, hk_.1.2.2.1, hk_.1.2.2.2.1, hk_.1.2.2.2.2.1, hk_.1.2.2.2.2.2.1, hk_.1.2.2.2.2.2.2⟩)); have n3_ := Aside0.mk (Kd.R_mono (ok' := fun k_ => some k_ ≠ (v848 : Value).ownBlock ∧ some k_ ≠ (.slice Ao54 t857.length co54 : Value).ownBlock ∧ some k_ ≠ (.slice Ao55 t860.length co55 : Value).ownBlock ∧ some k_ ≠ (.slice Ao49 t853.length co49 : Value).ownBlock ∧ some k_ ≠ (.slice Ao79 t872.length co79 : Value).ownBlock ∧ some k_ ≠ (.slice Ao82 t876.length co82 : Value).ownBlock ∧ some k_ ≠ (.slice Ao84 t880.length co84 : Value).ownBlock) (Kd.R_keptB (HO_15.out) hkp (fun k_ hk_ hs_ => (hk_.2.1) hs_)) (fun k_ hk_ => ⟨hk_.1.1, hk_.1.2.1, hk_.1.2.2.1, hk_.1.2.2.2.1, hk_.1.2.2.2.2.1, hk_.1.2.2.2.2.2.1, hk_.1.2.2.2.2.2.2⟩)); have n4_ := Aside0.mk (Kd.R_mono (ok' := fun k_ => some k_ ≠ (v848 : Value).ownBlock ∧ some k_ ≠ (.slice Ao54 t857.length co54 : Value).ownBlock ∧ some k_ ≠ (.slice Ao55 t860.length co55 : Value).ownBlock ∧ some k_ ≠ (v866 : Value).ownBlock ∧ some k_ ≠ (.slice Ao79 t872.length co79 : Value).ownBlock ∧ some k_ ≠ (.slice Ao82 t876.length co82 : Value).ownBlock ∧ some k_ ≠ (.slice Ao84 t880.length co84 : Value).ownBlock) (Kd.R_keptB (HO_857002.out) hkp (fun k_ hk_ hs_ => (hk_.1.1.1.2.1) hs_)) (fun k_ hk_ => ⟨hk_.1.1.1.1.1, hk_.1.1.1.1.2.1, hk_.1.1.1.1.2.2.1, hk_.1.1.1.1.2.2.2, hk_.1.1.1.2, hk_.1.1.2, hk_.1.2⟩)); have n5_ := Aside0.mk (blk_kept zaj3 hkp (fun hs_ => (fun e_ => (Kd.R_ne HO_13.out BK831.out (by decide)) e_) hs_)); have n6_ := Aside0.mk (blk_kept zaj4 hkp (fun hs_ => (fun e_ => (Kd.R_ne HO_13.out BK832.out (by decide)) e_) hs_)); have n7_ := Aside0.mk (blk_kept zaj5 hkp (fun hs_ => (fun e_ => (Kd.R_ne HO_13.out BK856.out (by decide)) e_) hs_)); have n8_ := Aside0.mk (Kd.R_mono (ok' := fun k_ => some k_ ≠ (v848 : Value).ownBlock ∧ some k_ ≠ (.slice Ao54 t857.length co54 : Value).ownBlock ∧ some k_ ≠ (.slice Ao55 t860.length co55 : Value).ownBlock ∧ some k_ ≠ (v866 : Value).ownBlock ∧ some k_ ≠ (.slice Ao49 t853.length co49 : Value).ownBlock ∧ some k_ ≠ (.slice Ao82 t876.length co82 : Value).ownBlock ∧ some k_ ≠ (.slice Ao84 t880.length co84 : Value).ownBlock) (Kd.R_keptB (HO874.out) hkp (fun k_ hk_ hs_ => (hk_.2.1) hs_)) (fun k_ hk_ => ⟨hk_.1.1, hk_.1.2.1, hk_.1.2.2.1, hk_.1.2.2.2.1, hk_.1.2.2.2.2.1, hk_.1.2.2.2.2.2.1, hk_.1.2.2.2.2.2.2⟩)); have n9_ := Aside0.mk (Kd.R_mono (ok' := fun k_ => some k_ ≠ (v848 : Value).ownBlock ∧ some k_ ≠ (.slice Ao54 t857.length co54 : Value).ownBlock ∧ some k_ ≠ (.slice Ao55 t860.length co55 : Value).ownBlock ∧ some k_ ≠ (v866 : Value).ownBlock ∧ some k_ ≠ (.slice Ao49 t853.length co49 : Value).ownBlock ∧ some k_ ≠ (.slice Ao79 t872.length co79 : Value).ownBlock ∧ some k_ ≠ (.slice Ao84 t880.length co84 : Value).ownBlock) (Kd.R_keptB (HO878.out) hkp (fun k_ hk_ hs_ => (hk_.2.1) hs_)) (fun k_ hk_ => ⟨hk_.1.1, hk_.1.2.1, hk_.1.2.2.1, hk_.1.2.2.2.1, hk_.1.2.2.2.2.1, hk_.1.2.2.2.2.2.1, hk_.1.2.2.2.2.2.2⟩)); have n10_ := Aside0.mk (Kd.R_mono (ok' := fun k_ => some k_ ≠ (v848 : Value).ownBlock ∧ some k_ ≠ (.slice Ao54 t857.length co54 : Value).ownBlock ∧ some k_ ≠ (.slice Ao55 t860.length co55 : Value).ownBlock ∧ some k_ ≠ (v866 : Value).ownBlock ∧ some k_ ≠ (.slice Ao49 t853.length co49 : Value).ownBlock ∧ some k_ ≠ (.slice Ao79 t872.length co79 : Value).ownBlock ∧ some k_ ≠ (.slice Ao82 t876.length co82 : Value).ownBlock) (Kd.R_keptB (HO882.out) hkp (fun k_ hk_ hs_ => (hk_.2.1) hs_)) (fun k_ hk_ => ⟨hk_.1.1, hk_.1.2.1, hk_.1.2.2.1, hk_.1.2.2.2.1, hk_.1.2.2.2.2.1, hk_.1.2.2.2.2.2.1, hk_.1.2.2.2.2.2.2⟩)); have n11_ := Aside0.mk (hb); clear HO_10; clear HO_13; clear HO_14; clear HO_15; clear HO_857002; clear BK831; clear BK832; clear BK856; clear HO874; clear HO878; clear HO882; clear HB; have HO_10 := n0_; have HO_13 := n1_; have HO_14 := n2_; have HO_15 := n3_; have HO_857002 := n4_; have BK831 := n5_; have BK832 := n6_; have BK856 := n7_; have HO874 := n8_; have HO878 := n9_; have HO882 := n10_; have HB := n11_; clear n0_ n1_ n2_ n3_ n4_ n5_ n6_ n7_ n8_ n9_ n10_ n11_; (try clear hb); (try clear hkp); (try clear hy0)) | ((with_reducible refine gate_callee (f := 21) rfl ?_); refine goesL_ (some 92) rfl rfl Try.func21 (by kernel_rfl) rfl #[.slice Ao55 t860.length co55, .int .i64 t886] rfl zaj2 ?_; (with_reducible refine (laws_markIntS.calls kj27 (fun k_ => some k_ = (.slice Ao55 t860.length co55 : Value).ownBlock) (.slice Ao55 t860.length co55) t860 t886 t888 t889 w _ ?side1 ?side2 A75.out).mono ?_); (case side1 => exact zaj1); (case side2 => exact Kd.R_tight rfl HO_14.out); rintro e w90 ⟨rfl, hy0, hb, hkp⟩; refine ⟨_, rfl, ?_⟩; have n0_ := Aside0.mk (Kd.R_mono (ok' := fun k_ => some k_ ≠ (.slice Ao54 t857.length co54 : Value).ownBlock ∧ some k_ ≠ (.slice Ao55 t860.length co55 : Value).ownBlock ∧ some k_ ≠ (v866 : Value).ownBlock ∧ some k_ ≠ (.slice Ao49 t853.length co49 : Value).ownBlock ∧ some k_ ≠ (.slice Ao79 t872.length co79 : Value).ownBlock ∧ some k_ ≠ (.slice Ao82 t876.length co82 : Value).ownBlock ∧ some k_ ≠ (.slice Ao84 t880.length co84 : Value).ownBlock) (Kd.R_keptB (HO_10.out) hkp (fun k_ hk_ hs_ => (hk_.2.1) hs_)) (fun k_ hk_ => ⟨hk_.1.1, hk_.1.2.1, hk_.1.2.2.1, hk_.1.2.2.2.1, hk_.1.2.2.2.2.1, hk_.1.2.2.2.2.2.1, hk_.1.2.2.2.2.2.2⟩)); have n1_ := Aside0.mk (Kd.R_mono (ok' := fun k_ => some k_ ≠ (v848 : Value).ownBlock ∧ some k_ ≠ (.slice Ao55 t860.length co55 : Value).ownBlock ∧ some k_ ≠ (v866 : Value).ownBlock ∧ some k_ ≠ (.slice Ao49 t853.length co49 : Value).ownBlock ∧ some k_ ≠ (.slice Ao79 t872.length co79 : Value).ownBlock ∧ some k_ ≠ (.slice Ao82 t876.length co82 : Value).ownBlock ∧ some k_ ≠ (.slice Ao84 t880.length co84 : Value).ownBlock) (Kd.R_keptB (HO_13.out) hkp (fun k_ hk_ hs_ => (hk_.2.1) hs_)) (fun k_ hk_ => ⟨hk_.1.1, hk_.1.2.1, hk_.1.2.2.1, hk_.1.2.2.2.1, hk_.1.2.2.2.2.1, hk_.1.2.2.2.2.2.1, hk_.1.2.2.2.2.2.2⟩)); have n2_ := Aside0.mk (Kd.R_reok rfl hy0 (fun k_ e_ => HO_14.out.1 k_ e_)); have n3_ := Aside0.mk (Kd.R_mono (ok' := fun k_ => some k_ ≠ (v848 : Value).ownBlock ∧ some k_ ≠ (.slice Ao54 t857.length co54 : Value).ownBlock ∧ some k_ ≠ (.slice Ao55 t860.length co55 : Value).ownBlock ∧ some k_ ≠ (.slice Ao49 t853.length co49 : Value).ownBlock ∧ some k_ ≠ (.slice Ao79 t872.length co79 : Value).ownBlock ∧ some k_ ≠ (.slice Ao82 t876.length co82 : Value).ownBlock ∧ some k_ ≠ (.slice Ao84 t880.length co84 : Value).ownBlock) (Kd.R_keptB (HO_15.out) hkp (fun k_ hk_ hs_ => (hk_.2.2.1) hs_)) (fun k_ hk_ => ⟨hk_.1.1, hk_.1.2.1, hk_.1.2.2.1, hk_.1.2.2.2.1, hk_.1.2.2.2.2.1, hk_.1.2.2.2.2.2.1, hk_.1.2.2.2.2.2.2⟩)); have n4_ := Aside0.mk (Kd.R_mono (ok' := fun k_ => some k_ ≠ (v848 : Value).ownBlock ∧ some k_ ≠ (.slice Ao54 t857.length co54 : Value).ownBlock ∧ some k_ ≠ (.slice Ao55 t860.length co55 : Value).ownBlock ∧ some k_ ≠ (v866 : Value).ownBlock ∧ some k_ ≠ (.slice Ao79 t872.length co79 : Value).ownBlock ∧ some k_ ≠ (.slice Ao82 t876.length co82 : Value).ownBlock ∧ some k_ ≠ (.slice Ao84 t880.length co84 : Value).ownBlock) (Kd.R_keptB (HO_857002.out) hkp (fun k_ hk_ hs_ => (hk_.2.2.1) hs_)) (fun k_ hk_ => ⟨hk_.1.1, hk_.1.2.1, hk_.1.2.2.1, hk_.1.2.2.2.1, hk_.1.2.2.2.2.1, hk_.1.2.2.2.2.2.1, hk_.1.2.2.2.2.2.2⟩)); have n5_ := Aside0.mk (blk_kept zaj3 hkp (fun hs_ => (fun e_ => (Kd.R_ne HO_14.out BK831.out (by decide)) e_) hs_)); have n6_ := Aside0.mk (blk_kept zaj4 hkp (fun hs_ => (fun e_ => (Kd.R_ne HO_14.out BK832.out (by decide)) e_) hs_)); have n7_ := Aside0.mk (blk_kept zaj5 hkp (fun hs_ => (fun e_ => (Kd.R_ne HO_14.out BK856.out (by decide)) e_) hs_)); have n8_ := Aside0.mk (Kd.R_mono (ok' := fun k_ => some k_ ≠ (v848 : Value).ownBlock ∧ some k_ ≠ (.slice Ao54 t857.length co54 : Value).ownBlock ∧ some k_ ≠ (.slice Ao55 t860.length co55 : Value).ownBlock ∧ some k_ ≠ (v866 : Value).ownBlock ∧ some k_ ≠ (.slice Ao49 t853.length co49 : Value).ownBlock ∧ some k_ ≠ (.slice Ao82 t876.length co82 : Value).ownBlock ∧ some k_ ≠ (.slice Ao84 t880.length co84 : Value).ownBlock) (Kd.R_keptB (HO874.out) hkp (fun k_ hk_ hs_ => (hk_.2.2.1) hs_)) (fun k_ hk_ => ⟨hk_.1.1, hk_.1.2.1, hk_.1.2.2.1, hk_.1.2.2.2.1, hk_.1.2.2.2.2.1, hk_.1.2.2.2.2.2.1, hk_.1.2.2.2.2.2.2⟩)); have n9_ := Aside0.mk (Kd.R_mono (ok' := fun k_ => some k_ ≠ (v848 : Value).ownBlock ∧ some k_ ≠ (.slice Ao54 t857.length co54 : Value).ownBlock ∧ some k_ ≠ (.slice Ao55 t860.length co55 : Value).ownBlock ∧ some k_ ≠ (v866 : Value).ownBlock ∧ some k_ ≠ (.slice Ao49 t853.length co49 : Value).ownBlock ∧ some k_ ≠ (.slice Ao79 t872.length co79 : Value).ownBlock ∧ some k_ ≠ (.slice Ao84 t880.length co84 : Value).ownBlock) (Kd.R_keptB (HO878.out) hkp (fun k_ hk_ hs_ => (hk_.2.2.1) hs_)) (fun k_ hk_ => ⟨hk_.1.1, hk_.1.2.1, hk_.1.2.2.1, hk_.1.2.2.2.1, hk_.1.2.2.2.2.1, hk_.1.2.2.2.2.2.1, hk_.1.2.2.2.2.2.2⟩)); have n10_ := Aside0.mk (Kd.R_mono (ok' := fun k_ => some k_ ≠ (v848 : Value).ownBlock ∧ some k_ ≠ (.slice Ao54 t857.length co54 : Value).ownBlock ∧ some k_ ≠ (.slice Ao55 t860.length co55 : Value).ownBlock ∧ some k_ ≠ (v866 : Value).ownBlock ∧ some k_ ≠ (.slice Ao49 t853.length co49 : Value).ownBlock ∧ some k_ ≠ (.slice Ao79 t872.length co79 : Value).ownBlock ∧ some k_ ≠ (.slice Ao82 t876.length co82 : Value).ownBlock) (Kd.R_keptB (HO882.out) hkp (fun k_ hk_ hs_ => (hk_.2.2.1) hs_)) (fun k_ hk_ => ⟨hk_.1.1, hk_.1.2.1, hk_.1.2.2.1, hk_.1.2.2.2.1, hk_.1.2.2.2.2.1, hk_.1.2.2.2.2.2.1, hk_.1.2.2.2.2.2.2⟩)); have n11_ := Aside0.mk (hb); clear HO_10; clear HO_13; clear HO_14; clear HO_15; clear HO_857002; clear BK831; clear BK832; clear BK856; clear HO874; clear HO878; clear HO882; clear HB; have HO_10 := n0_; have HO_13 := n1_; have HO_14 := n2_; have HO_15 := n3_; have HO_857002 := n4_; have BK831 := n5_; have BK832 := n6_; have BK856 := n7_; have HO874 := n8_; have HO878 := n9_; have HO882 := n10_; have HB := n11_; clear n0_ n1_ n2_ n3_ n4_ n5_ n6_ n7_ n8_ n9_ n10_ n11_; (try clear hb); (try clear hkp); (try clear hy0)))
   (try simp only [Act.put, List.setIfInBounds_toArray, List.set_cons_zero, List.set_cons_succ])
   go_cut [105] (fun v105 wc => ∃ (kq : Nat) (x105_75 : Bool), v105 = .bool x105_75 ∧ Aside0 (laws_FnExactChainWalks.j1 kq l2 l3 t847 t850 t865 x105_75 a0_0 a0_1 l0_2 a1_0 a1_1 = some r) ∧ Aside0 (kq ≤ kj27) ∧ Aside0 (Kd.R (Kd.int .i64) 3 wc w.heap.size (fun k_ => some k_ ≠ (v866 : Value).ownBlock ∧ some k_ ≠ ((.slice Ao49 t853.length co49) : Value).ownBlock) v848 t847) ∧ Aside0 (Kd.R (Kd.int .i64) 3 wc w.heap.size (fun k_ => some k_ ≠ (v848 : Value).ownBlock ∧ some k_ ≠ ((.slice Ao49 t853.length co49) : Value).ownBlock) v866 t865) ∧ Aside0 (Kd.R (Kd.int .i64) 3 wc w.heap.size (fun k_ => some k_ ≠ (v848 : Value).ownBlock ∧ some k_ ≠ (v866 : Value).ownBlock) (.slice Ao49 t853.length co49) t885) ∧ Aside0 (wc.heap[gb831]? = some (.cells #[.int .i64 a0_0, .int .i64 a0_1, (.slice A0_2 l0_2.length c0_2)] 24 (0, 0))) ∧ Aside0 (wc.heap[gb832]? = some (.cells #[.int .i64 a1_0, .int .i64 a1_1] 26 (0, 0))) ∧ Aside0 (wc.heap[gb856]? = some (.cells #[.int .i64 t851, .int .i64 t852, (.slice Ao49 t853.length co49)] 30 (0, 0))) ∧ Aside0 (Below w.heap.size w wc))
   case first =>
    have H := HC76.out
    clear HC76
    by_cases c91 : t888 < 0
    ·rw [if_pos c91] at H
     have c91b0 : decide (t888 < 0) = true := decide_eq_true c91
     clear c91
     (first | rw [c91b0] | (simp only [i64_w, i32_w]; rw [c91b0]) | skip)
     have H' := Aside0.mk H
     clear H
     go_wp2
     go_meet
     case rel => exact ⟨_, (true), zaj43, H', ⟨by have := HJ27.out; first | omega | exact Nat.le_refl _⟩, ⟨zaj39⟩, ⟨zaj42⟩, ⟨zaj38⟩, ⟨zaj3⟩, ⟨zaj4⟩, ⟨zaj5⟩, ⟨zaj1⟩⟩
    rw [if_neg c91] at H
    have c91b0 : decide (t888 < 0) = false := decide_eq_false c91
    clear c91
    (first | rw [c91b0] | (simp only [i64_w, i32_w]; rw [c91b0]) | skip)
    replace H := Option.bind_eq_some_iff.mp H
    obtain ⟨t890, A920, H⟩ := H
    replace H : (if t890 = true then (laws_FnExactChainWalks.j1 kj27 l2 l3 t847 t850 t865 (t868 != t850) a0_0 a0_1 l0_2 a1_0 a1_1) else (laws_FnExactChainWalks.j1 kj27 l2 l3 t847 t850 t865 true a0_0 a0_1 l0_2 a1_0 a1_1)) = some r := H
    have A92 := Aside0.mk A920
    clear A920
    by_cases c93 : t890 = true
    ·subst c93
     have H1 : (laws_FnExactChainWalks.j1 kj27 l2 l3 t847 t850 t865 (t868 != t850) a0_0 a0_1 l0_2 a1_0 a1_1) = some r := by rw [if_pos rfl] at H; exact H
     clear H
     have H := H1
     clear H1
     have H' := Aside0.mk H
     clear H
     obtain ⟨Ao94, co94, eo94⟩ := Kd.R_slice HO_15.out
     subst eo94
     obtain ⟨Ao95, co95, eo95⟩ := Kd.R_slice HO_10.out
     subst eo95
     go_wp2_with (first | (go_at_call 18; (with_reducible refine (laws_eqIntS.calls kj27 _ _ t865 _ _ t847 true _ ?side1 ?side2 ?side3 ?side4 A92.out).mono ?_); (case side1 => exact zaj18); (case side2 => exact (Kd.R_reads' HO_15.out).2.1); (case side3 => exact zaj26); (case side4 => exact (Kd.R_reads' HO_10.out).2.1); rintro e w' ⟨rfl, ⟨nd, rfl⟩⟩))
     go_meet
     case rel => exact ⟨_, ((t868 != t850)), zaj43, H', ⟨by have := HJ27.out; first | omega | exact Nat.le_refl _⟩, ⟨zaj39⟩, ⟨zaj42⟩, ⟨zaj38⟩, ⟨zaj3⟩, ⟨zaj4⟩, ⟨zaj5⟩, ⟨zaj1⟩⟩
    replace c93 := Bool.eq_false_iff.mpr c93
    subst c93
    have H1 : (laws_FnExactChainWalks.j1 kj27 l2 l3 t847 t850 t865 true a0_0 a0_1 l0_2 a1_0 a1_1) = some r := by rw [if_neg (show ¬ (false = true) by decide)] at H; exact H
    clear H
    have H := H1
    clear H1
    have H' := Aside0.mk H
    clear H
    obtain ⟨Ao96, co96, eo96⟩ := Kd.R_slice HO_15.out
    subst eo96
    obtain ⟨Ao97, co97, eo97⟩ := Kd.R_slice HO_10.out
    subst eo97
    go_wp2_with (first | (go_at_call 18; (with_reducible refine (laws_eqIntS.calls kj27 _ _ t865 _ _ t847 false _ ?side1 ?side2 ?side3 ?side4 A92.out).mono ?_); (case side1 => exact zaj18); (case side2 => exact (Kd.R_reads' HO_15.out).2.1); (case side3 => exact zaj26); (case side4 => exact (Kd.R_reads' HO_10.out).2.1); rintro e w' ⟨rfl, ⟨nd, rfl⟩⟩))
    go_meet
    case rel => exact ⟨_, (true), zaj43, H', ⟨by have := HJ27.out; first | omega | exact Nat.le_refl _⟩, ⟨zaj39⟩, ⟨zaj42⟩, ⟨zaj38⟩, ⟨zaj3⟩, ⟨zaj4⟩, ⟨zaj5⟩, ⟨zaj1⟩⟩
   case rest =>
    clear HC76
    try clear c1; try clear c2; try clear p2; try clear c3; try clear c4; try clear c5; try clear c6; try clear c7; try clear c8; try clear c9; try clear c12; try clear c14; try clear c15; try clear c16; try clear c18; try clear c19; try clear c20; try clear c21; try clear c29; try clear c30; try clear c31; try clear c46; try clear c47; try clear c58; try clear c63; try clear c66; try clear c69; try clear c72; try clear c85; try clear c86; try clear c91; try clear c91b0; try clear c93; try clear hcz32_0; try clear hcz32_1; try clear hcz32_2; try clear hcz43_0; try clear hcz43_1; try clear hcz43_2; try clear hcz48_0
    try clear hcz48_1; try clear hcz48_2; try clear hcz87_0; try clear hcz87_1; try clear hcz87_2; try clear hfz32_0; try clear hfz32_1; try clear hfz32_2; try clear hfz43_0; try clear hfz43_1; try clear hfz43_2; try clear hfz48_0; try clear hfz48_1; try clear hfz48_2; try clear hfz87_0; try clear hfz87_1; try clear hfz87_2; try clear p2
    obtain ⟨kq, x105_75, rfl, HA, HJ75, HO_10, HO_15, HO_857002, BK831, BK832, BK856, HB⟩ := hcut
    have hl857002_75 := (Kd.R_reads' HO_857002.out).1
    rw [hl857002_75] at HO_857002
    (try simp only [hl857002_75])
    (try simp only [hl857002_75] at BK831)
    (try simp only [hl857002_75] at BK832)
    (try simp only [hl857002_75] at BK856)
    (try simp only [hl857002_75] at HO_10)
    (try simp only [hl857002_75] at HO_15)
    cases kq with
    | zero => exact absurd HA.out (by simp [laws_FnExactChainWalks.j1])
    | succ kj75 =>
     have H := HA.out
     clear HA
     simp only [laws_FnExactChainWalks.j1] at H
     by_cases c98 : x105_75 = true
     ·subst c98
      have H1 : (some false) = some r := by rw [if_pos rfl] at H; exact H
      clear H
      have H := H1
      clear H1
      obtain rfl := Option.some.inj H
      go_wp2
      go_ret
      exact ⟨zaj17, zaj1⟩
     replace c98 := Bool.eq_false_iff.mpr c98
     subst c98
     have H1 : ((laws_markIntS.f kj75 t865 1).bind fun bt891 => ((laws_heldIntS.f kj75 bt891.2 1).bind fun t893 => (if t893 < 0 then (some false) else (if t893 = bt891.1 then ((laws_toBoard.f kj75 a0_0 a0_1 l0_2).bind fun bt894 => ((laws_toLeaper.f a1_0 a1_1).bind fun bt899 => ((laws_toIntS.f kj75 l2).bind fun t901 => ((laws_toIntS.f kj75 l3).bind fun t904 => ((impl_ChainWalks.f kj75 bt894.1 bt894.2.1 bt894.2.2 bt899.1 bt899.2 t901 t904).bind fun bt907 => ((laws_eqIntS.f kj75 bt907.1 t847).bind fun t911 => (if t911 = true then (laws_FnExactChainWalks.j2 kj75 bt891.2 bt891.1 (bt907.2 != t850)) else (laws_FnExactChainWalks.j2 kj75 bt891.2 bt891.1 true)))))))) else (some false))))) = some r := by rw [if_neg (show ¬ (false = true) by decide)] at H; exact H
     clear H
     have H := H1
     clear H1
     replace H := Option.bind_eq_some_iff.mp H
     obtain ⟨⟨t891, t892⟩, A990, H⟩ := H
     replace H : ((laws_heldIntS.f kj75 t892 1).bind fun t893 => (if t893 < 0 then (some false) else (if t893 = t891 then ((laws_toBoard.f kj75 a0_0 a0_1 l0_2).bind fun bt894 => ((laws_toLeaper.f a1_0 a1_1).bind fun bt899 => ((laws_toIntS.f kj75 l2).bind fun t901 => ((laws_toIntS.f kj75 l3).bind fun t904 => ((impl_ChainWalks.f kj75 bt894.1 bt894.2.1 bt894.2.2 bt899.1 bt899.2 t901 t904).bind fun bt907 => ((laws_eqIntS.f kj75 bt907.1 t847).bind fun t911 => (if t911 = true then (laws_FnExactChainWalks.j2 kj75 t892 t891 (bt907.2 != t850)) else (laws_FnExactChainWalks.j2 kj75 t892 t891 true)))))))) else (some false)))) = some r := H
     have A99 := Aside0.mk A990
     clear A990
     replace H := Option.bind_eq_some_iff.mp H
     obtain ⟨t893, A1000, H⟩ := H
     replace H : (if t893 < 0 then (some false) else (if t893 = t891 then ((laws_toBoard.f kj75 a0_0 a0_1 l0_2).bind fun bt894 => ((laws_toLeaper.f a1_0 a1_1).bind fun bt899 => ((laws_toIntS.f kj75 l2).bind fun t901 => ((laws_toIntS.f kj75 l3).bind fun t904 => ((impl_ChainWalks.f kj75 bt894.1 bt894.2.1 bt894.2.2 bt899.1 bt899.2 t901 t904).bind fun bt907 => ((laws_eqIntS.f kj75 bt907.1 t847).bind fun t911 => (if t911 = true then (laws_FnExactChainWalks.j2 kj75 t892 t891 (bt907.2 != t850)) else (laws_FnExactChainWalks.j2 kj75 t892 t891 true)))))))) else (some false))) = some r := H
     have A100 := Aside0.mk A1000
     clear A1000
     by_cases c101 : t893 < 0
     ·rw [if_pos c101] at H
      have c101b0 : decide (t893 < 0) = true := decide_eq_true c101
      clear c101
      obtain rfl := Option.some.inj H
      obtain ⟨Ao102, co102, eo102⟩ := Kd.R_slice HO_15.out
      subst eo102
      go_wp2_with (first | ((with_reducible refine gate_callee (f := 21) rfl ?_); refine goesL_ (some 108) rfl rfl Try.func21 (by kernel_rfl) rfl #[.slice Ao102 t865.length co102, .int .i64 1] rfl zaj2 ?_; (with_reducible refine (laws_markIntS.calls kj75 (fun k_ => some k_ = (.slice Ao102 t865.length co102 : Value).ownBlock) (.slice Ao102 t865.length co102) t865 1 t891 t892 w _ ?side1 ?side2 A99.out).mono ?_); (case side1 => exact zaj1); (case side2 => exact Kd.R_tight rfl HO_15.out); rintro e w103 ⟨rfl, hy0, hb, hkp⟩; refine ⟨_, rfl, ?_⟩; have n0_ := Aside0.mk (Kd.R_mono (ok' := fun k_ => some k_ ≠ (.slice Ao102 t865.length co102 : Value).ownBlock ∧ some k_ ≠ (.slice Ao49 t885.length co49 : Value).ownBlock) (Kd.R_keptB (HO_10.out) hkp (fun k_ hk_ hs_ => (hk_.1) hs_)) (fun k_ hk_ => ⟨hk_.1.1, hk_.1.2⟩)); have n1_ := Aside0.mk (Kd.R_reok rfl hy0 (fun k_ e_ => HO_15.out.1 k_ e_)); have n2_ := Aside0.mk (Kd.R_mono (ok' := fun k_ => some k_ ≠ (v848 : Value).ownBlock ∧ some k_ ≠ (.slice Ao102 t865.length co102 : Value).ownBlock) (Kd.R_keptB (HO_857002.out) hkp (fun k_ hk_ hs_ => (hk_.2) hs_)) (fun k_ hk_ => ⟨hk_.1.1, hk_.1.2⟩)); have n3_ := Aside0.mk (blk_kept zaj3 hkp (fun hs_ => (fun e_ => (Kd.R_ne HO_15.out BK831.out (by decide)) e_) hs_)); have n4_ := Aside0.mk (blk_kept zaj4 hkp (fun hs_ => (fun e_ => (Kd.R_ne HO_15.out BK832.out (by decide)) e_) hs_)); have n5_ := Aside0.mk (blk_kept zaj5 hkp (fun hs_ => (fun e_ => (Kd.R_ne HO_15.out BK856.out (by decide)) e_) hs_)); have n6_ := Aside0.mk (hb); clear HO_10; clear HO_15; clear HO_857002; clear BK831; clear BK832; clear BK856; clear HB; have HO_10 := n0_; have HO_15 := n1_; have HO_857002 := n2_; have BK831 := n3_; have BK832 := n4_; have BK856 := n5_; have HB := n6_; clear n0_ n1_ n2_ n3_ n4_ n5_ n6_; (try clear hb); (try clear hkp); (try clear hy0)) | ((with_reducible refine gate_callee (f := 22) rfl ?_); refine goesL_ (some 111) rfl rfl Try.func22 (by kernel_rfl) rfl #[.slice Ao102 t892.length co102, .int .i64 1] rfl zaj28 ?_; (with_reducible refine (laws_heldIntS.calls kj75 _ _ t892 1 t893 _ ?side1 ?side2 A100.out).mono ?_); (case side1 => exact zaj18); (case side2 => exact zaj45); rintro e w' ⟨rfl, ⟨nd, rfl⟩⟩; refine ⟨_, rfl, ?_⟩))
      go_ret
      exact ⟨zaj17, zaj1⟩
     rw [if_neg c101] at H
     have c101b0 : decide (t893 < 0) = false := decide_eq_false c101
     clear c101
     by_cases c104 : t893 = t891
     rotate_left
     ·rw [if_neg c104] at H
      have c104b0 : (t893 == t891) = false := beq_eq_false_iff_ne.mpr c104
      have c104b1 : (t893 != t891) = true := bne_iff_ne.mpr c104
      obtain rfl := Option.some.inj H
      obtain ⟨Ao132, co132, eo132⟩ := Kd.R_slice HO_15.out
      subst eo132
      go_wp2_with (first | ((with_reducible refine gate_callee (f := 21) rfl ?_); refine goesL_ (some 108) rfl rfl Try.func21 (by kernel_rfl) rfl #[.slice Ao132 t865.length co132, .int .i64 1] rfl zaj2 ?_; (with_reducible refine (laws_markIntS.calls kj75 (fun k_ => some k_ = (.slice Ao132 t865.length co132 : Value).ownBlock) (.slice Ao132 t865.length co132) t865 1 t891 t892 w _ ?side1 ?side2 A99.out).mono ?_); (case side1 => exact zaj1); (case side2 => exact Kd.R_tight rfl HO_15.out); rintro e w133 ⟨rfl, hy0, hb, hkp⟩; refine ⟨_, rfl, ?_⟩; have n0_ := Aside0.mk (Kd.R_mono (ok' := fun k_ => some k_ ≠ (.slice Ao132 t865.length co132 : Value).ownBlock ∧ some k_ ≠ (.slice Ao49 t885.length co49 : Value).ownBlock) (Kd.R_keptB (HO_10.out) hkp (fun k_ hk_ hs_ => (hk_.1) hs_)) (fun k_ hk_ => ⟨hk_.1.1, hk_.1.2⟩)); have n1_ := Aside0.mk (Kd.R_reok rfl hy0 (fun k_ e_ => HO_15.out.1 k_ e_)); have n2_ := Aside0.mk (Kd.R_mono (ok' := fun k_ => some k_ ≠ (v848 : Value).ownBlock ∧ some k_ ≠ (.slice Ao132 t865.length co132 : Value).ownBlock) (Kd.R_keptB (HO_857002.out) hkp (fun k_ hk_ hs_ => (hk_.2) hs_)) (fun k_ hk_ => ⟨hk_.1.1, hk_.1.2⟩)); have n3_ := Aside0.mk (blk_kept zaj3 hkp (fun hs_ => (fun e_ => (Kd.R_ne HO_15.out BK831.out (by decide)) e_) hs_)); have n4_ := Aside0.mk (blk_kept zaj4 hkp (fun hs_ => (fun e_ => (Kd.R_ne HO_15.out BK832.out (by decide)) e_) hs_)); have n5_ := Aside0.mk (blk_kept zaj5 hkp (fun hs_ => (fun e_ => (Kd.R_ne HO_15.out BK856.out (by decide)) e_) hs_)); have n6_ := Aside0.mk (hb); clear HO_10; clear HO_15; clear HO_857002; clear BK831; clear BK832; clear BK856; clear HB; have HO_10 := n0_; have HO_15 := n1_; have HO_857002 := n2_; have BK831 := n3_; have BK832 := n4_; have BK856 := n5_; have HB := n6_; clear n0_ n1_ n2_ n3_ n4_ n5_ n6_; (try clear hb); (try clear hkp); (try clear hy0)) | ((with_reducible refine gate_callee (f := 22) rfl ?_); refine goesL_ (some 111) rfl rfl Try.func22 (by kernel_rfl) rfl #[.slice Ao132 t892.length co132, .int .i64 1] rfl zaj28 ?_; (with_reducible refine (laws_heldIntS.calls kj75 _ _ t892 1 t893 _ ?side1 ?side2 A100.out).mono ?_); (case side1 => exact zaj18); (case side2 => exact zaj45); rintro e w' ⟨rfl, ⟨nd, rfl⟩⟩; refine ⟨_, rfl, ?_⟩))
      go_ret
      exact ⟨zaj17, zaj1⟩
     rw [if_pos c104] at H
     have c104b0 : (t893 == t891) = true := beq_iff_eq.mpr c104
     have c104b1 : (t893 != t891) = false := bne_eq_false_iff_eq.mpr c104
     clear c104
     replace H := Option.bind_eq_some_iff.mp H
     obtain ⟨⟨t894, t895, t896⟩, A1050, H⟩ := H
     replace H : ((laws_toLeaper.f a1_0 a1_1).bind fun bt899 => ((laws_toIntS.f kj75 l2).bind fun t901 => ((laws_toIntS.f kj75 l3).bind fun t904 => ((impl_ChainWalks.f kj75 t894 t895 t896 bt899.1 bt899.2 t901 t904).bind fun bt907 => ((laws_eqIntS.f kj75 bt907.1 t847).bind fun t911 => (if t911 = true then (laws_FnExactChainWalks.j2 kj75 t892 t891 (bt907.2 != t850)) else (laws_FnExactChainWalks.j2 kj75 t892 t891 true))))))) = some r := H
     have A105 := Aside0.mk A1050
     clear A1050
     replace H := Option.bind_eq_some_iff.mp H
     obtain ⟨⟨t899, t900⟩, A1060, H⟩ := H
     replace H : ((laws_toIntS.f kj75 l2).bind fun t901 => ((laws_toIntS.f kj75 l3).bind fun t904 => ((impl_ChainWalks.f kj75 t894 t895 t896 t899 t900 t901 t904).bind fun bt907 => ((laws_eqIntS.f kj75 bt907.1 t847).bind fun t911 => (if t911 = true then (laws_FnExactChainWalks.j2 kj75 t892 t891 (bt907.2 != t850)) else (laws_FnExactChainWalks.j2 kj75 t892 t891 true)))))) = some r := H
     have A106 := Aside0.mk A1060
     clear A1060
     replace H := Option.bind_eq_some_iff.mp H
     obtain ⟨t901, A1070, H⟩ := H
     replace H : ((laws_toIntS.f kj75 l3).bind fun t904 => ((impl_ChainWalks.f kj75 t894 t895 t896 t899 t900 t901 t904).bind fun bt907 => ((laws_eqIntS.f kj75 bt907.1 t847).bind fun t911 => (if t911 = true then (laws_FnExactChainWalks.j2 kj75 t892 t891 (bt907.2 != t850)) else (laws_FnExactChainWalks.j2 kj75 t892 t891 true))))) = some r := H
     have A107 := Aside0.mk A1070
     clear A1070
     replace H := Option.bind_eq_some_iff.mp H
     obtain ⟨t904, A1080, H⟩ := H
     replace H : ((impl_ChainWalks.f kj75 t894 t895 t896 t899 t900 t901 t904).bind fun bt907 => ((laws_eqIntS.f kj75 bt907.1 t847).bind fun t911 => (if t911 = true then (laws_FnExactChainWalks.j2 kj75 t892 t891 (bt907.2 != t850)) else (laws_FnExactChainWalks.j2 kj75 t892 t891 true)))) = some r := H
     have A108 := Aside0.mk A1080
     clear A1080
     replace H := Option.bind_eq_some_iff.mp H
     obtain ⟨⟨t907, t910⟩, A1090, H⟩ := H
     replace H : ((laws_eqIntS.f kj75 t907 t847).bind fun t911 => (if t911 = true then (laws_FnExactChainWalks.j2 kj75 t892 t891 (t910 != t850)) else (laws_FnExactChainWalks.j2 kj75 t892 t891 true))) = some r := H
     have A109 := Aside0.mk A1090
     clear A1090
     have HC110 := Aside0.mk H
     clear H
     obtain ⟨Ao111, co111, eo111⟩ := Kd.R_slice HO_15.out
     subst eo111
     try go_wp2_with (first | ((with_reducible refine gate_callee (f := 21) rfl ?_); refine goesL_ (some 108) rfl rfl Try.func21 (by kernel_rfl) rfl #[.slice Ao111 t865.length co111, .int .i64 1] rfl zaj2 ?_; (with_reducible refine (laws_markIntS.calls kj75 (fun k_ => some k_ = (.slice Ao111 t865.length co111 : Value).ownBlock) (.slice Ao111 t865.length co111) t865 1 t891 t892 w _ ?side1 ?side2 A99.out).mono ?_); (case side1 => exact zaj1); (case side2 => exact Kd.R_tight rfl HO_15.out); rintro e w112 ⟨rfl, hy0, hb, hkp⟩; refine ⟨_, rfl, ?_⟩; have n0_ := Aside0.mk (Kd.R_mono (ok' := fun k_ => some k_ ≠ (.slice Ao111 t865.length co111 : Value).ownBlock ∧ some k_ ≠ (.slice Ao49 t885.length co49 : Value).ownBlock) (Kd.R_keptB (HO_10.out) hkp (fun k_ hk_ hs_ => (hk_.1) hs_)) (fun k_ hk_ => ⟨hk_.1.1, hk_.1.2⟩)); have n1_ := Aside0.mk (Kd.R_reok rfl hy0 (fun k_ e_ => HO_15.out.1 k_ e_)); have n2_ := Aside0.mk (Kd.R_mono (ok' := fun k_ => some k_ ≠ (v848 : Value).ownBlock ∧ some k_ ≠ (.slice Ao111 t865.length co111 : Value).ownBlock) (Kd.R_keptB (HO_857002.out) hkp (fun k_ hk_ hs_ => (hk_.2) hs_)) (fun k_ hk_ => ⟨hk_.1.1, hk_.1.2⟩)); have n3_ := Aside0.mk (blk_kept zaj3 hkp (fun hs_ => (fun e_ => (Kd.R_ne HO_15.out BK831.out (by decide)) e_) hs_)); have n4_ := Aside0.mk (blk_kept zaj4 hkp (fun hs_ => (fun e_ => (Kd.R_ne HO_15.out BK832.out (by decide)) e_) hs_)); have n5_ := Aside0.mk (blk_kept zaj5 hkp (fun hs_ => (fun e_ => (Kd.R_ne HO_15.out BK856.out (by decide)) e_) hs_)); have n6_ := Aside0.mk (hb); clear HO_10; clear HO_15; clear HO_857002; clear BK831; clear BK832; clear BK856; clear HB; have HO_10 := n0_; have HO_15 := n1_; have HO_857002 := n2_; have BK831 := n3_; have BK832 := n4_; have BK856 := n5_; have HB := n6_; clear n0_ n1_ n2_ n3_ n4_ n5_ n6_; (try clear hb); (try clear hkp); (try clear hy0)) | ((with_reducible refine gate_callee (f := 22) rfl ?_); refine goesL_ (some 111) rfl rfl Try.func22 (by kernel_rfl) rfl #[.slice Ao111 t892.length co111, .int .i64 1] rfl zaj28 ?_; (with_reducible refine (laws_heldIntS.calls kj75 _ _ t892 1 t893 _ ?side1 ?side2 A100.out).mono ?_); (case side1 => exact zaj18); (case side2 => exact zaj45); rintro e w' ⟨rfl, ⟨nd, rfl⟩⟩; refine ⟨_, rfl, ?_⟩))
     (try (rw [drewN_self w112]; generalize hq_ : World.drewN w112 _ = w112; have n0_ : Aside0 (Kd.R (Kd.int .i64) 3 w112 w.heap.size (fun k_ => (some k_ ≠ (.slice Ao111 t865.length co111 : Value).ownBlock ∧ some k_ ≠ (.slice Ao49 t885.length co49 : Value).ownBlock)) v848 t847) := ⟨by rw [← hq_]; exact zaj9⟩; have n1_ : Aside0 (Kd.R (Kd.int .i64) 3 w112 w.heap.size (fun k_ => (some k_ ≠ (v848 : Value).ownBlock ∧ some k_ ≠ (.slice Ao49 t885.length co49 : Value).ownBlock)) (.slice Ao111 t865.length co111) t892) := ⟨by rw [← hq_]; exact zaj8⟩; have n2_ : Aside0 (Kd.R (Kd.int .i64) 3 w112 w.heap.size (fun k_ => (some k_ ≠ (v848 : Value).ownBlock ∧ some k_ ≠ (.slice Ao111 t865.length co111 : Value).ownBlock)) (.slice Ao49 t885.length co49) t885) := ⟨by rw [← hq_]; exact zaj7⟩; have n3_ : Aside0 (w112.heap[gb831]? = some (.cells #[.int .i64 a0_0, .int .i64 a0_1, .slice A0_2 l0_2.length c0_2] 24 (0, 0))) := ⟨by rw [← hq_]; exact zaj3⟩; have n4_ : Aside0 (w112.heap[gb832]? = some (.cells #[.int .i64 a1_0, .int .i64 a1_1] 26 (0, 0))) := ⟨by rw [← hq_]; exact zaj4⟩; have n5_ : Aside0 (w112.heap[gb856]? = some (.cells #[.int .i64 t851, .int .i64 t852, .slice Ao49 t885.length co49] 30 (0, 0))) := ⟨by rw [← hq_]; exact zaj5⟩; have n6_ : Aside0 (Below w.heap.size w w112) := ⟨by rw [← hq_]; exact zaj1⟩; clear HO_10 HO_15 HO_857002 BK831 BK832 BK856 HB hq_; have HO_10 := n0_; have HO_15 := n1_; have HO_857002 := n2_; have BK831 := n3_; have BK832 := n4_; have BK856 := n5_; have HB := n6_; clear n0_ n1_ n2_ n3_ n4_ n5_ n6_))
     have n0_ := Aside0.mk (Kd.R_drew HO_10.out)
     have n1_ := Aside0.mk (Kd.R_drew HO_15.out)
     have n2_ := Aside0.mk (Kd.R_drew HO_857002.out)
     have n3_ := Aside0.mk (blk_drew BK831.out)
     have n4_ := Aside0.mk (blk_drew BK832.out)
     have n5_ := Aside0.mk (blk_drew BK856.out)
     have n6_ := Aside0.mk (below_drew1 HB.out)
     clear HO_10
     clear HO_15
     clear HO_857002
     clear BK831
     clear BK832
     clear BK856
     clear HB
     have HO_10 := n0_
     have HO_15 := n1_
     have HO_857002 := n2_
     have BK831 := n3_
     have BK832 := n4_
     have BK856 := n5_
     have HB := n6_
     clear n0_ n1_ n2_ n3_ n4_ n5_ n6_
     refine start_ (n := 14) (S := fun w' => w'.cell? ⟨gb831, 0, none⟩ = some (.int .i64 a0_0) ∧ w'.cell? ⟨gb831, 1, none⟩ = some (.int .i64 a0_1) ∧ w'.cell? ⟨gb831, 2, none⟩ = some (.slice A0_2 l0_2.length c0_2) ∧ w'.cell? ⟨gb832, 0, none⟩ = some (.int .i64 a1_0) ∧ w'.cell? ⟨gb832, 1, none⟩ = some (.int .i64 a1_1)) (ds := []) #[false, false, false, false, false, false, false, false, false, false, false, false, false, false] (by kernel_rfl) rfl rfl ⟨(blk_cell BK831.out 0).trans rfl, (blk_cell BK831.out 1).trans rfl, (blk_cell BK831.out 2).trans rfl, (blk_cell BK832.out 0).trans rfl, (blk_cell BK832.out 1).trans rfl⟩ (fun hHeld => ?_); refine with_tabW laws_FnExactChainWalks.tab36 laws_FnExactChainWalks.bits36 (fun HT_ HW_ => ?_)
     generalize w112.drew = w113 at HO_10 HO_15 HO_857002 BK831 BK832 BK856 HB hHeld ⊢
     refine pure_ (i := 4) (N := some 122) (v := ?_) (a' := ?_) #[false, false, false, false, true, false, false, false, false, false, false, false, false, false] rfl rfl (any_of HT_.out (by kernel_rfl)) (fun _ _ _ h => h) (Or.inl ⟨by rfl, ?_⟩) ?_ ?_
     rotate_left
     ·intro w'
      go_simp
      with_reducible rfl
     rotate_left
     ·simp only [Act.put, List.setIfInBounds_toArray, List.set_cons_zero, List.set_cons_succ, i64_w, i32_w]
      rfl
     refine pure_ (i := 6) (N := some 124) (v := ?_) (a' := ?_) #[false, false, false, false, true, false, true, false, false, false, false, false, false, false] rfl rfl (any_of HT_.out (by kernel_rfl)) (fun _ _ _ h => h) (Or.inl ⟨by rfl, ?_⟩) ?_ ?_
     rotate_left
     ·intro w'
      go_simp
      with_reducible rfl
     rotate_left
     ·simp only [Act.put, List.setIfInBounds_toArray, List.set_cons_zero, List.set_cons_succ, i64_w, i32_w]
      rfl
     refine take_ (i := 0) (N := some 118) (v := ?_) (a' := ?_) #[true, false, false, false, true, false, true, false, false, false, false, false, false, false] rfl rfl (take_ofW HT_.out HW_.out (by kernel_rfl)) (fun _ _ _ h => h) (Or.inl ⟨by rfl, ?_⟩) hHeld ?_ ?_
     rotate_left
     ·rintro w' ⟨s0, s1, s2, s3, s4⟩
      go_simp
      with_reducible rfl
     rotate_left
     ·simp only [Act.put, List.setIfInBounds_toArray, List.set_cons_zero, List.set_cons_succ, i64_w, i32_w]
      rfl
     refine take_ (i := 2) (N := some 120) (v := ?_) (a' := ?_) #[true, false, true, false, true, false, true, false, false, false, false, false, false, false] rfl rfl (take_ofW HT_.out HW_.out (by kernel_rfl)) (fun _ _ _ h => h) (Or.inl ⟨by rfl, ?_⟩) hHeld ?_ ?_
     rotate_left
     ·rintro w' ⟨s0, s1, s2, s3, s4⟩
      go_simp
      with_reducible rfl
     rotate_left
     ·simp only [Act.put, List.setIfInBounds_toArray, List.set_cons_zero, List.set_cons_succ, i64_w, i32_w]
      rfl
     refine one_ (i := 1) (N := some 119) #[true, true, true, false, true, false, true, false, false, false, false, false, false, false] rfl rfl (one_of HT_.out (by kernel_rfl)) (by decide) (fun K hK => ?_)
     refine goes_ Try.func14 (by kernel_rfl) rfl #[.agg #[.int .i64 a0_0, .int .i64 a0_1, .slice A0_2 l0_2.length c0_2]] (by rfl) rfl rfl zaj2 ?_
     with_reducible refine (laws_toBoard.calls kj75 a0_0 a0_1 _ _ l0_2 t894 t895 t896 _ ?side1 ?side2 A105.out).mono ?_
     (case side1 => exact zaj15)
     (case side2 => exact HC0_2.out)
     rintro e w114 ⟨v897, rfl, ho0, hb⟩
     refine ⟨_, rfl, ?_⟩
     have n0_ := Aside0.mk (Kd.R_elder' zaj9 (Kd.R_base ho0) hb)
     have n1_ := Aside0.mk (Kd.R_elder' zaj8 (Kd.R_base ho0) hb)
     have n2_ := Aside0.mk (Kd.R_elder' zaj7 (Kd.R_base ho0) hb)
     have n3_ := Aside0.mk (Kd.R_lower (Kd.R_new' (Kd.R_new' (Kd.R_new' ho0 (Kd.R_lt zaj9)) (Kd.R_lt zaj8)) (Kd.R_lt zaj7)) (below_size zaj1))
     have n4_ := Aside0.mk (blk_below (g := gb831) (o := .cells #[.int .i64 a0_0, .int .i64 a0_1, .slice A0_2 l0_2.length c0_2] 24 (0, 0)) zaj3 hb)
     have n5_ := Aside0.mk (blk_below (g := gb832) (o := .cells #[.int .i64 a1_0, .int .i64 a1_1] 26 (0, 0)) zaj4 hb)
     have n6_ := Aside0.mk (blk_below (g := gb856) (o := .cells #[.int .i64 t851, .int .i64 t852, .slice Ao49 t885.length co49] 30 (0, 0)) zaj5 hb)
     have n7_ := Aside0.mk (below_step zaj1 hb)
     clear HO_10
     clear HO_15
     clear HO_857002
     clear BK831
     clear BK832
     clear BK856
     clear HB
     have HO_10 := n0_
     have HO_15 := n1_
     have HO_857002 := n2_
     have HO898 := n3_
     have BK831 := n4_
     have BK832 := n5_
     have BK856 := n6_
     have HB := n7_
     clear n0_ n1_ n2_ n3_ n4_ n5_ n6_ n7_
     (try clear hb)
     (try clear hb2)
     (try clear hk)
     (try clear hi)
     (try clear ho0)
     (try clear hna_)
     (try clear hnb_)
     refine hK.out _ _ ⟨(blk_cell BK831.out 0).trans rfl, (blk_cell BK831.out 1).trans rfl, (blk_cell BK831.out 2).trans rfl, (blk_cell BK832.out 0).trans rfl, (blk_cell BK832.out 1).trans rfl⟩ (fun hHeld => ?_)
     clear hK K
     refine norm_ (a' := ?_) ?_ ?_
     rotate_left
     ·show Act.put _ (some 119) _ = _
      simp only [Act.put, List.setIfInBounds_toArray, List.set_cons_zero, List.set_cons_succ, i64_w, i32_w]
      rfl
     refine one_ (i := 3) (N := some 121) #[true, true, true, true, true, false, true, false, false, false, false, false, false, false] rfl rfl (one_of HT_.out (by kernel_rfl)) (by decide) (fun K hK => ?_)
     refine goes_ Try.func15 (by kernel_rfl) rfl #[.agg #[.int .i64 a1_0, .int .i64 a1_1]] (by rfl) rfl rfl zaj2 ?_
     with_reducible refine (laws_toLeaper.calls a1_0 a1_1 t899 t900 _ A106.out).mono ?_
     rintro e w115 ⟨rfl, hb⟩
     refine ⟨_, rfl, ?_⟩
     have n0_ := Aside0.mk (Kd.R_below zaj9 hb)
     have n1_ := Aside0.mk (Kd.R_below zaj8 hb)
     have n2_ := Aside0.mk (Kd.R_below zaj7 hb)
     have n3_ := Aside0.mk (Kd.R_below zaj23 hb)
     have n4_ := Aside0.mk (blk_below (g := gb831) (o := .cells #[.int .i64 a0_0, .int .i64 a0_1, .slice A0_2 l0_2.length c0_2] 24 (0, 0)) zaj3 hb)
     have n5_ := Aside0.mk (blk_below (g := gb832) (o := .cells #[.int .i64 a1_0, .int .i64 a1_1] 26 (0, 0)) zaj4 hb)
     have n6_ := Aside0.mk (blk_below (g := gb856) (o := .cells #[.int .i64 t851, .int .i64 t852, .slice Ao49 t885.length co49] 30 (0, 0)) zaj5 hb)
     have n7_ := Aside0.mk (below_step zaj1 hb)
     clear HO_10
     clear HO_15
     clear HO_857002
     clear HO898
     clear BK831
     clear BK832
     clear BK856
     clear HB
     have HO_10 := n0_
     have HO_15 := n1_
     have HO_857002 := n2_
     have HO898 := n3_
     have BK831 := n4_
     have BK832 := n5_
     have BK856 := n6_
     have HB := n7_
     clear n0_ n1_ n2_ n3_ n4_ n5_ n6_ n7_
     (try clear hb)
     (try clear hb2)
     (try clear hk)
     (try clear hi)
     (try clear hna_)
     (try clear hnb_)
     refine hK.out _ _ ⟨(blk_cell BK831.out 0).trans rfl, (blk_cell BK831.out 1).trans rfl, (blk_cell BK831.out 2).trans rfl, (blk_cell BK832.out 0).trans rfl, (blk_cell BK832.out 1).trans rfl⟩ (fun hHeld => ?_)
     clear hK K
     refine norm_ (a' := ?_) ?_ ?_
     rotate_left
     ·show Act.put _ (some 121) _ = _
      simp only [Act.put, List.setIfInBounds_toArray, List.set_cons_zero, List.set_cons_succ, i64_w, i32_w]
      rfl
     refine one_ (i := 5) (N := some 123) #[true, true, true, true, true, true, true, false, false, false, false, false, false, false] rfl rfl (one_of HT_.out (by kernel_rfl)) (by decide) (fun K hK => ?_)
     refine goes_ Try.func16 (by kernel_rfl) rfl #[.slice A2 l2.length c2] (by rfl) rfl rfl zaj2 ?_
     with_reducible refine (laws_toIntS.calls kj75 _ _ l2 t901 _ ?side1 ?side2 A107.out).mono ?_
     (case side1 => exact zaj22)
     (case side2 => exact HC2.out)
     rintro e w116 ⟨v902, rfl, ho0, hb⟩
     refine ⟨_, rfl, ?_⟩
     have n0_ := Aside0.mk (Kd.R_elder' zaj9 (Kd.R_base ho0) hb)
     have n1_ := Aside0.mk (Kd.R_elder' zaj8 (Kd.R_base ho0) hb)
     have n2_ := Aside0.mk (Kd.R_elder' zaj7 (Kd.R_base ho0) hb)
     have n3_ := Aside0.mk (Kd.R_elder' zaj23 (Kd.R_base ho0) hb)
     have n4_ := Aside0.mk (Kd.R_lower (Kd.R_new' (Kd.R_new' (Kd.R_new' (Kd.R_new' ho0 (Kd.R_lt zaj9)) (Kd.R_lt zaj8)) (Kd.R_lt zaj7)) (Kd.R_lt zaj23)) (below_size zaj1))
     have n5_ := Aside0.mk (blk_below (g := gb831) (o := .cells #[.int .i64 a0_0, .int .i64 a0_1, .slice A0_2 l0_2.length c0_2] 24 (0, 0)) zaj3 hb)
     have n6_ := Aside0.mk (blk_below (g := gb832) (o := .cells #[.int .i64 a1_0, .int .i64 a1_1] 26 (0, 0)) zaj4 hb)
     have n7_ := Aside0.mk (blk_below (g := gb856) (o := .cells #[.int .i64 t851, .int .i64 t852, .slice Ao49 t885.length co49] 30 (0, 0)) zaj5 hb)
     have n8_ := Aside0.mk (below_step zaj1 hb)
     clear HO_10
     clear HO_15
     clear HO_857002
     clear HO898
     clear BK831
     clear BK832
     clear BK856
     clear HB
     have HO_10 := n0_
     have HO_15 := n1_
     have HO_857002 := n2_
     have HO898 := n3_
     have HO903 := n4_
     have BK831 := n5_
     have BK832 := n6_
     have BK856 := n7_
     have HB := n8_
     clear n0_ n1_ n2_ n3_ n4_ n5_ n6_ n7_ n8_
     (try clear hb)
     (try clear hb2)
     (try clear hk)
     (try clear hi)
     (try clear ho0)
     (try clear hna_)
     (try clear hnb_)
     refine hK.out _ _ ⟨(blk_cell BK831.out 0).trans rfl, (blk_cell BK831.out 1).trans rfl, (blk_cell BK831.out 2).trans rfl, (blk_cell BK832.out 0).trans rfl, (blk_cell BK832.out 1).trans rfl⟩ (fun hHeld => ?_)
     clear hK K
     refine norm_ (a' := ?_) ?_ ?_
     rotate_left
     ·show Act.put _ (some 123) _ = _
      simp only [Act.put, List.setIfInBounds_toArray, List.set_cons_zero, List.set_cons_succ, i64_w, i32_w]
      rfl
     refine one_ (i := 7) (N := some 125) #[true, true, true, true, true, true, true, true, false, false, false, false, false, false] rfl rfl (one_of HT_.out (by kernel_rfl)) (by decide) (fun K hK => ?_)
     refine goes_ Try.func16 (by kernel_rfl) rfl #[.slice A3 l3.length c3] (by rfl) rfl rfl zaj2 ?_
     with_reducible refine (laws_toIntS.calls kj75 _ _ l3 t904 _ ?side1 ?side2 A108.out).mono ?_
     (case side1 => exact zaj37)
     (case side2 => exact HC3.out)
     rintro e w117 ⟨v905, rfl, ho0, hb⟩
     refine ⟨_, rfl, ?_⟩
     have n0_ := Aside0.mk (Kd.R_elder' zaj9 (Kd.R_base ho0) hb)
     have n1_ := Aside0.mk (Kd.R_elder' zaj8 (Kd.R_base ho0) hb)
     have n2_ := Aside0.mk (Kd.R_elder' zaj7 (Kd.R_base ho0) hb)
     have n3_ := Aside0.mk (Kd.R_elder' zaj23 (Kd.R_base ho0) hb)
     have n4_ := Aside0.mk (Kd.R_elder' zaj40 (Kd.R_base ho0) hb)
     have n5_ := Aside0.mk (Kd.R_lower (Kd.R_new' (Kd.R_new' (Kd.R_new' (Kd.R_new' (Kd.R_new' ho0 (Kd.R_lt zaj9)) (Kd.R_lt zaj8)) (Kd.R_lt zaj7)) (Kd.R_lt zaj23)) (Kd.R_lt zaj40)) (below_size zaj1))
     have n6_ := Aside0.mk (blk_below (g := gb831) (o := .cells #[.int .i64 a0_0, .int .i64 a0_1, .slice A0_2 l0_2.length c0_2] 24 (0, 0)) zaj3 hb)
     have n7_ := Aside0.mk (blk_below (g := gb832) (o := .cells #[.int .i64 a1_0, .int .i64 a1_1] 26 (0, 0)) zaj4 hb)
     have n8_ := Aside0.mk (blk_below (g := gb856) (o := .cells #[.int .i64 t851, .int .i64 t852, .slice Ao49 t885.length co49] 30 (0, 0)) zaj5 hb)
     have n9_ := Aside0.mk (below_step zaj1 hb)
     clear HO_10
     clear HO_15
     clear HO_857002
     clear HO898
     clear HO903
     clear BK831
     clear BK832
     clear BK856
     clear HB
     have HO_10 := n0_
     have HO_15 := n1_
     have HO_857002 := n2_
     have HO898 := n3_
     have HO903 := n4_
     have HO906 := n5_
     have BK831 := n6_
     have BK832 := n7_
     have BK856 := n8_
     have HB := n9_
     clear n0_ n1_ n2_ n3_ n4_ n5_ n6_ n7_ n8_ n9_
     (try clear hb)
     (try clear hb2)
     (try clear hk)
     (try clear hi)
     (try clear ho0)
     (try clear hna_)
     (try clear hnb_)
     obtain ⟨Ao118, co118, eo118⟩ := Kd.R_slice HO898.out
     (first | subst eo118 | (injection eo118 with f1_ f2_ f3_; have f4_ := f1_.symm; have f5_ := f3_.symm; clear f1_ f2_ f3_; subst f4_; subst f5_))
     obtain ⟨Ao119, co119, eo119⟩ := Kd.R_slice HO903.out
     (first | subst eo119 | (injection eo119 with f1_ f2_ f3_; have f4_ := f1_.symm; have f5_ := f3_.symm; clear f1_ f2_ f3_; subst f4_; subst f5_))
     obtain ⟨Ao120, co120, eo120⟩ := Kd.R_slice HO906.out
     (first | subst eo120 | (injection eo120 with f1_ f2_ f3_; have f4_ := f1_.symm; have f5_ := f3_.symm; clear f1_ f2_ f3_; subst f4_; subst f5_))
     refine hK.out _ _ ⟨(blk_cell BK831.out 0).trans rfl, (blk_cell BK831.out 1).trans rfl, (blk_cell BK831.out 2).trans rfl, (blk_cell BK832.out 0).trans rfl, (blk_cell BK832.out 1).trans rfl⟩ (fun hHeld => ?_)
     clear hK K
     refine norm_ (a' := ?_) ?_ ?_
     rotate_left
     ·show Act.put _ (some 125) _ = _
      simp only [Act.put, List.setIfInBounds_toArray, List.set_cons_zero, List.set_cons_succ, i64_w, i32_w]
      rfl
     refine one_ (i := 8) (N := some 126) #[true, true, true, true, true, true, true, true, true, false, false, false, false, false] rfl rfl (one_of HT_.out (by kernel_rfl)) (by decide) (fun K hK => ?_)
     refine goes_ Try.func30 (by kernel_rfl) rfl #[.agg #[.int .i64 t894, .int .i64 t895, .slice Ao118 t896.length co118], .agg #[.int .i64 t899, .int .i64 t900], .slice Ao119 t901.length co119, .slice Ao120 t904.length co120] (by rfl) rfl rfl zaj2 ?_
     with_reducible refine (impl_ChainWalks.calls kj75 t894 t895 _ _ t896 t899 t900 _ _ t901 _ _ t904 t907 t910 _ ?side1 ?side2 ?side3 ?side4 ?side5 ?side6 A109.out).mono ?_
     (case side1 => repeat (first | exact (Kd.R_reads' HO898.out).2.2 | (with_reducible refine Kd.C_alloc ?_ _) | (with_reducible refine Kd.C_drewN ?_ _) | (with_reducible refine Kd.C_drew ?_)))
     (case side2 => exact (Kd.R_reads' HO898.out).2.1)
     (case side3 => repeat (first | exact (Kd.R_reads' HO903.out).2.2 | (with_reducible refine Kd.C_alloc ?_ _) | (with_reducible refine Kd.C_drewN ?_ _) | (with_reducible refine Kd.C_drew ?_)))
     (case side4 => exact (Kd.R_reads' HO903.out).2.1)
     (case side5 => repeat (first | exact (Kd.R_reads' HO906.out).2.2 | (with_reducible refine Kd.C_alloc ?_ _) | (with_reducible refine Kd.C_drewN ?_ _) | (with_reducible refine Kd.C_drew ?_)))
     (case side6 => exact (Kd.R_reads' HO906.out).2.1)
     rintro e w121 ⟨v908, rfl, ho0, hb⟩
     refine ⟨_, rfl, ?_⟩
     have n0_ := Aside0.mk (Kd.R_elder' zaj9 (Kd.R_base ho0) hb)
     have n1_ := Aside0.mk (Kd.R_elder' zaj8 (Kd.R_base ho0) hb)
     have n2_ := Aside0.mk (Kd.R_elder' zaj7 (Kd.R_base ho0) hb)
     have n3_ := Aside0.mk (Kd.R_elder' zaj23 (Kd.R_base ho0) hb)
     have n4_ := Aside0.mk (Kd.R_elder' zaj40 (Kd.R_base ho0) hb)
     have n5_ := Aside0.mk (Kd.R_elder' (by first | exact HO906.out | ((with_reducible repeat (first | apply Kd.R_alloc | apply Kd.R_drewN | apply Kd.R_drew)); exact HO906.out)) (Kd.R_base ho0) hb)
     have n6_ := Aside0.mk (Kd.R_lower (Kd.R_new' (Kd.R_new' (Kd.R_new' (Kd.R_new' (Kd.R_new' (Kd.R_new' ho0 (Kd.R_lt zaj9)) (Kd.R_lt zaj8)) (Kd.R_lt zaj7)) (Kd.R_lt zaj23)) (Kd.R_lt zaj40)) (Kd.R_lt (by first | exact HO906.out | ((with_reducible repeat (first | apply Kd.R_alloc | apply Kd.R_drewN | apply Kd.R_drew)); exact HO906.out)))) (below_size zaj1))
     have n7_ := Aside0.mk (blk_below (g := gb831) (o := .cells #[.int .i64 a0_0, .int .i64 a0_1, .slice A0_2 l0_2.length c0_2] 24 (0, 0)) zaj3 hb)
     have n8_ := Aside0.mk (blk_below (g := gb832) (o := .cells #[.int .i64 a1_0, .int .i64 a1_1] 26 (0, 0)) zaj4 hb)
     have n9_ := Aside0.mk (blk_below (g := gb856) (o := .cells #[.int .i64 t851, .int .i64 t852, .slice Ao49 t885.length co49] 30 (0, 0)) zaj5 hb)
     have n10_ := Aside0.mk (below_step zaj1 hb)
     clear HO_10
     clear HO_15
     clear HO_857002
     clear HO898
     clear HO903
     clear HO906
     clear BK831
     clear BK832
     clear BK856
     clear HB
     have HO_10 := n0_
     have HO_15 := n1_
     have HO_857002 := n2_
     have HO898 := n3_
     have HO903 := n4_
     have HO906 := n5_
     have HO909 := n6_
     have BK831 := n7_
     have BK832 := n8_
     have BK856 := n9_
     have HB := n10_
     clear n0_ n1_ n2_ n3_ n4_ n5_ n6_ n7_ n8_ n9_ n10_
     (try clear hb)
     (try clear hb2)
     (try clear hk)
     (try clear hi)
     (try clear ho0)
     (try clear hna_)
     (try clear hnb_)
     refine hK.out _ _ ⟨(blk_cell BK831.out 0).trans rfl, (blk_cell BK831.out 1).trans rfl, (blk_cell BK831.out 2).trans rfl, (blk_cell BK832.out 0).trans rfl, (blk_cell BK832.out 1).trans rfl⟩ (fun hHeld => ?_)
     clear hK K
     refine norm_ (a' := ?_) ?_ ?_
     rotate_left
     ·show Act.put _ (some 126) _ = _
      simp only [Act.put, List.setIfInBounds_toArray, List.set_cons_zero, List.set_cons_succ, i64_w, i32_w]
      rfl
     refine pure_ (i := 9) (N := some 117) (v := ?_) (a' := ?_) #[true, true, true, true, true, true, true, true, true, true, false, false, false, false] rfl rfl (any_of HT_.out (by kernel_rfl)) (fun _ _ _ h => h) (Or.inl ⟨by rfl, ?_⟩) ?_ ?_
     rotate_left
     ·intro w'
      go_simp
      with_reducible rfl
     rotate_left
     ·simp only [Act.put, List.setIfInBounds_toArray, List.set_cons_zero, List.set_cons_succ, i64_w, i32_w]
      rfl
     refine pure_ (i := 10) (N := some 127) (v := ?_) (a' := ?_) #[true, true, true, true, true, true, true, true, true, true, true, false, false, false] rfl rfl (any_of HT_.out (by kernel_rfl)) (fun _ _ _ h => h) (Or.inl ⟨by rfl, ?_⟩) ?_ ?_
     rotate_left
     ·intro w'
      go_simp
      with_reducible rfl
     rotate_left
     ·simp only [Act.put, List.setIfInBounds_toArray, List.set_cons_zero, List.set_cons_succ, i64_w, i32_w]
      rfl
     refine pure_ (i := 11) (N := some 128) (v := ?_) (a' := ?_) #[true, true, true, true, true, true, true, true, true, true, true, true, false, false] rfl rfl (any_of HT_.out (by kernel_rfl)) (fun _ _ _ h => h) (Or.inl ⟨by rfl, ?_⟩) ?_ ?_
     rotate_left
     ·intro w'
      go_simp
      with_reducible rfl
     rotate_left
     ·simp only [Act.put, List.setIfInBounds_toArray, List.set_cons_zero, List.set_cons_succ, i64_w, i32_w]
      rfl
     refine pure_ (i := 12) (N := some 20) (v := ?_) (a' := ?_) #[true, true, true, true, true, true, true, true, true, true, true, true, true, false] rfl rfl (any_of HT_.out (by kernel_rfl)) (fun _ _ _ h => h) (Or.inl ⟨by rfl, ?_⟩) ?_ ?_
     rotate_left
     ·intro w'
      go_simp
      with_reducible rfl
     rotate_left
     ·simp only [Act.put, List.setIfInBounds_toArray, List.set_cons_zero, List.set_cons_succ, i64_w, i32_w]
      rfl
     refine pure_ (i := 13) (N := some 21) (v := ?_) (a' := ?_) #[true, true, true, true, true, true, true, true, true, true, true, true, true, true] rfl rfl (any_of HT_.out (by kernel_rfl)) (fun _ _ _ h => h) (Or.inl ⟨by rfl, ?_⟩) ?_ ?_
     rotate_left
     ·intro w'
      go_simp
      with_reducible rfl
     rotate_left
     ·simp only [Act.put, List.setIfInBounds_toArray, List.set_cons_zero, List.set_cons_succ, i64_w, i32_w]
      rfl
     refine done_ (done_of HT_.out (by kernel_rfl)) ?_
     go_upto_region 37 with (fail)
     go_cut [137] (fun v137 wc => ∃ (kq : Nat) (x137_109 : Bool), v137 = .bool x137_109 ∧ Aside0 (laws_FnExactChainWalks.j2 kq t892 t891 x137_109 = some r) ∧ Aside0 (kq ≤ kj75) ∧ Aside0 (Kd.R (Kd.int .i64) 3 wc w.heap.size (fun k_ => some k_ ≠ ((.slice Ao49 t885.length co49) : Value).ownBlock) (.slice Ao111 t865.length co111) t892) ∧ Aside0 (Kd.R (Kd.int .i64) 3 wc w.heap.size (fun k_ => some k_ ≠ ((.slice Ao111 t865.length co111) : Value).ownBlock) (.slice Ao49 t885.length co49) t885) ∧ Aside0 (wc.heap[gb831]? = some (.cells #[.int .i64 a0_0, .int .i64 a0_1, (.slice A0_2 l0_2.length c0_2)] 24 (0, 0))) ∧ Aside0 (wc.heap[gb832]? = some (.cells #[.int .i64 a1_0, .int .i64 a1_1] 26 (0, 0))) ∧ Aside0 (wc.heap[gb856]? = some (.cells #[.int .i64 t851, .int .i64 t852, (.slice Ao49 t885.length co49)] 30 (0, 0))) ∧ Aside0 (Below w.heap.size w wc))
     case first =>
      have H := HC110.out
      clear HC110
      replace H := Option.bind_eq_some_iff.mp H
      obtain ⟨t911, A1220, H⟩ := H
      replace H : (if t911 = true then (laws_FnExactChainWalks.j2 kj75 t892 t891 (t910 != t850)) else (laws_FnExactChainWalks.j2 kj75 t892 t891 true)) = some r := H
      have A122 := Aside0.mk A1220
      clear A1220
      by_cases c123 : t911 = true
      ·subst c123
       have H1 : (laws_FnExactChainWalks.j2 kj75 t892 t891 (t910 != t850)) = some r := by rw [if_pos rfl] at H; exact H
       clear H
       have H := H1
       clear H1
       have H' := Aside0.mk H
       clear H
       obtain ⟨Ao124, co124, eo124⟩ := Kd.R_slice HO909.out
       subst eo124
       obtain ⟨Ao125, co125, eo125⟩ := Kd.R_slice HO_10.out
       subst eo125
       go_wp2_with (first | ((with_reducible refine gate_callee (f := 18) rfl ?_); refine goesL_ (some 131) rfl rfl Try.func18 (by kernel_rfl) rfl #[.slice Ao124 t907.length co124, .slice Ao125 t847.length co125] rfl zaj2 ?_; (with_reducible refine (laws_eqIntS.calls kj75 _ _ t907 _ _ t847 true _ ?side1 ?side2 ?side3 ?side4 A122.out).mono ?_); (case side1 => exact zaj54); (case side2 => exact (Kd.R_reads' HO909.out).2.1); (case side3 => exact zaj26); (case side4 => exact (Kd.R_reads' HO_10.out).2.1); rintro e w' ⟨rfl, ⟨nd, rfl⟩⟩; refine ⟨_, rfl, ?_⟩))
       go_meet
       case rel => exact ⟨_, ((t910 != t850)), zaj43, H', ⟨by have := HJ27.out; have := HJ75.out; first | omega | exact Nat.le_refl _⟩, ⟨zaj52⟩, ⟨zaj51⟩, ⟨zaj60⟩, ⟨zaj59⟩, ⟨zaj58⟩, ⟨zaj1⟩⟩
      replace c123 := Bool.eq_false_iff.mpr c123
      subst c123
      have H1 : (laws_FnExactChainWalks.j2 kj75 t892 t891 true) = some r := by rw [if_neg (show ¬ (false = true) by decide)] at H; exact H
      clear H
      have H := H1
      clear H1
      have H' := Aside0.mk H
      clear H
      obtain ⟨Ao126, co126, eo126⟩ := Kd.R_slice HO909.out
      subst eo126
      obtain ⟨Ao127, co127, eo127⟩ := Kd.R_slice HO_10.out
      subst eo127
      go_wp2_with (first | ((with_reducible refine gate_callee (f := 18) rfl ?_); refine goesL_ (some 131) rfl rfl Try.func18 (by kernel_rfl) rfl #[.slice Ao126 t907.length co126, .slice Ao127 t847.length co127] rfl zaj2 ?_; (with_reducible refine (laws_eqIntS.calls kj75 _ _ t907 _ _ t847 false _ ?side1 ?side2 ?side3 ?side4 A122.out).mono ?_); (case side1 => exact zaj54); (case side2 => exact (Kd.R_reads' HO909.out).2.1); (case side3 => exact zaj26); (case side4 => exact (Kd.R_reads' HO_10.out).2.1); rintro e w' ⟨rfl, ⟨nd, rfl⟩⟩; refine ⟨_, rfl, ?_⟩))
      go_meet
      case rel => exact ⟨_, (true), zaj43, H', ⟨by have := HJ27.out; have := HJ75.out; first | omega | exact Nat.le_refl _⟩, ⟨zaj52⟩, ⟨zaj51⟩, ⟨zaj60⟩, ⟨zaj59⟩, ⟨zaj58⟩, ⟨zaj1⟩⟩
     case rest =>
      clear HC110
      try clear c1; try clear c2; try clear p2; try clear c3; try clear c4; try clear c5; try clear c6; try clear c7; try clear c8; try clear c9; try clear c10; try clear c12; try clear c14; try clear c15; try clear c16; try clear c18; try clear c19; try clear c20; try clear c21; try clear c22; try clear c29; try clear c30; try clear c31; try clear c46; try clear c47; try clear c58; try clear c63; try clear c66; try clear c69; try clear c72; try clear c85; try clear c86; try clear c91; try clear c91b0; try clear c93; try clear c98; try clear c101; try clear c101b0; try clear c104; try clear c104b0; try clear c104b1
      try clear c123; try clear hcz32_0; try clear hcz32_1; try clear hcz32_2; try clear hcz43_0; try clear hcz43_1; try clear hcz43_2; try clear hcz48_0; try clear hcz48_1; try clear hcz48_2; try clear hcz87_0; try clear hcz87_1; try clear hcz87_2; try clear hfz32_0; try clear hfz32_1; try clear hfz32_2; try clear hfz43_0; try clear hfz43_1; try clear hfz43_2; try clear hfz48_0; try clear hfz48_1; try clear hfz48_2; try clear hfz87_0; try clear hfz87_1; try clear hfz87_2; try clear p2
      obtain ⟨kq, x137_109, rfl, HA, HJ109, HO_15, HO_857002, BK831, BK832, BK856, HB⟩ := hcut
      have hl15_109 := (Kd.R_reads' HO_15.out).1
      rw [hl15_109] at HO_15
      (try simp only [hl15_109])
      (try simp only [hl15_109] at BK831)
      (try simp only [hl15_109] at BK832)
      (try simp only [hl15_109] at BK856)
      (try simp only [hl15_109] at HO_857002)
      cases kq with
      | zero => exact absurd HA.out (by simp [laws_FnExactChainWalks.j2])
      | succ kj109 =>
       have H := HA.out
       clear HA
       simp only [laws_FnExactChainWalks.j2] at H
       by_cases c128 : x137_109 = true
       ·subst c128
        have H1 : (some false) = some r := by rw [if_pos rfl] at H; exact H
        clear H
        have H := H1
        clear H1
        obtain rfl := Option.some.inj H
        go_wp2
        go_ret
        exact ⟨zaj17, zaj1⟩
       replace c128 := Bool.eq_false_iff.mpr c128
       subst c128
       have H1 : ((laws_heldIntS.f kj109 t892 1).bind fun t912 => (if t912 < 0 then (some false) else (if t912 = t891 then (some true) else (some false)))) = some r := by rw [if_neg (show ¬ (false = true) by decide)] at H; exact H
       clear H
       have H := H1
       clear H1
       replace H := Option.bind_eq_some_iff.mp H
       obtain ⟨t912, A1290, H⟩ := H
       replace H : (if t912 < 0 then (some false) else (if t912 = t891 then (some true) else (some false))) = some r := H
       have A129 := Aside0.mk A1290
       clear A1290
       by_cases c130 : t912 < 0
       ·rw [if_pos c130] at H
        have c130b0 : decide (t912 < 0) = true := decide_eq_true c130
        clear c130
        obtain rfl := Option.some.inj H
        go_wp2_with (first | ((with_reducible refine gate_callee (f := 22) rfl ?_); refine goesL_ (some 140) rfl rfl Try.func22 (by kernel_rfl) rfl #[.slice Ao111 t892.length co111, .int .i64 1] rfl zaj2 ?_; (with_reducible refine (laws_heldIntS.calls kj109 _ _ t892 1 t912 _ ?side1 ?side2 A129.out).mono ?_); (case side1 => exact zaj18); (case side2 => exact (Kd.R_reads' HO_15.out).2.1); rintro e w' ⟨rfl, ⟨nd, rfl⟩⟩; refine ⟨_, rfl, ?_⟩))
        go_ret
        exact ⟨zaj17, zaj1⟩
       rw [if_neg c130] at H
       have c130b0 : decide (t912 < 0) = false := decide_eq_false c130
       clear c130
       by_cases c131 : t912 = t891
       rotate_left
       ·rw [if_neg c131] at H
        have c131b0 : (t912 == t891) = false := beq_eq_false_iff_ne.mpr c131
        have c131b1 : (t912 != t891) = true := bne_iff_ne.mpr c131
        obtain rfl := Option.some.inj H
        go_wp2_with (first | ((with_reducible refine gate_callee (f := 22) rfl ?_); refine goesL_ (some 140) rfl rfl Try.func22 (by kernel_rfl) rfl #[.slice Ao111 t892.length co111, .int .i64 1] rfl zaj2 ?_; (with_reducible refine (laws_heldIntS.calls kj109 _ _ t892 1 t912 _ ?side1 ?side2 A129.out).mono ?_); (case side1 => exact zaj18); (case side2 => exact (Kd.R_reads' HO_15.out).2.1); rintro e w' ⟨rfl, ⟨nd, rfl⟩⟩; refine ⟨_, rfl, ?_⟩))
        go_ret
        exact ⟨zaj17, zaj1⟩
       rw [if_pos c131] at H
       have c131b0 : (t912 == t891) = true := beq_iff_eq.mpr c131
       have c131b1 : (t912 != t891) = false := bne_eq_false_iff_eq.mpr c131
       clear c131
       obtain rfl := Option.some.inj H
       go_wp2_with (first | ((with_reducible refine gate_callee (f := 22) rfl ?_); refine goesL_ (some 140) rfl rfl Try.func22 (by kernel_rfl) rfl #[.slice Ao111 t892.length co111, .int .i64 1] rfl zaj2 ?_; (with_reducible refine (laws_heldIntS.calls kj109 _ _ t892 1 t912 _ ?side1 ?side2 A129.out).mono ?_); (case side1 => exact zaj18); (case side2 => exact (Kd.R_reads' HO_15.out).2.1); rintro e w' ⟨rfl, ⟨nd, rfl⟩⟩; refine ⟨_, rfl, ?_⟩))
       go_ret
       exact ⟨zaj17, zaj1⟩

end Go.Proofs.Ytbecdckdbeoomaa.Q

/- Written by a program of this session: functions of the translation as plain Lean functions, each with a proof that the call does what the plain function says; the conditions stand in each theorem. -/
import Derived.Test.YtemaokhlolimhaaQ0
import Derived.Test.YtemaokhlolimhaaQ1
import Derived.Test.YtemaokhlolimhaaQ4
import Derived.Test.YtemaokhlolimhaaQ8
import Derived.Test.YtemaokhlolimhaaQ9
namespace Go.Proofs.Ytemaokhlolimhaa.Q
open Go.RowKit Go.Proofs.YtemaokhlolimhaaW.PrintWords Go.Proofs.YtemaokhlolimhaaW.PrintLast Go.Proofs.YtemaokhlolimhaaW.PrintMore
attribute [local go_sem] max2_int min2_int max_two min_two max_three min_three max_four min_four   -- for this text's walks alone
set_option linter.unusedVariables false
set_option linter.unusedSimpArgs false

theorem zk1 {p : Prop} (h : p := by repeat (first | (with_reducible first | exact HB.out | apply below_alloc | apply pw_below_drewN | apply below_drew1 | refine below_set ?_ GE336.out | refine below_set ?_ GE337.out | refine below_set ?_ GE358.out) | exact HB.out)) : p := h
theorem zk2 {p : Prop} (h : p := by first | exact BK336.out | ((with_reducible repeat (first | refine blk_drewN ?_ _ | refine blk_drew ?_ | refine blk_alloc ?_ _)); exact BK336.out)) : p := h
theorem zk3 {p : Prop} (h : p := by (try simp only [List.map_toArray, List.map_cons, List.map_nil]); first | done | rfl | (simp only [List.length_drop, List.length_take]; rfl)) : p := h
theorem zk4 {p : Prop} (h : p := by first | exact BK337.out | ((with_reducible repeat (first | refine blk_drewN ?_ _ | refine blk_drew ?_ | refine blk_alloc ?_ _)); exact BK337.out)) : p := h
theorem zk5 {p : Prop} (h : p := by repeat (first | (with_reducible first | exact HB.out | apply below_alloc | apply pw_below_drewN | apply below_drew1 | refine below_set ?_ GE336.out | refine below_set ?_ GE337.out) | exact HB.out)) : p := h
theorem zk6 {p : Prop} (h : p := by first | exact BK358.out | ((with_reducible repeat (first | refine blk_drewN ?_ _ | refine blk_drew ?_ | refine blk_alloc ?_ _)); exact BK358.out)) : p := h
theorem zk7 {p : Prop} (h : p := by first | exact HO_359002.out | ((with_reducible repeat (first | apply Kd.R_alloc | apply Kd.R_drewN | apply Kd.R_drew)); exact HO_359002.out)) : p := h
theorem zk8 {p : Prop} (h : p := by first | exact HO_12.out | ((with_reducible repeat (first | apply Kd.R_alloc | apply Kd.R_drewN | apply Kd.R_drew)); exact HO_12.out)) : p := h
theorem zk9 {p : Prop} (h : p := by first | exact HO_8.out | ((with_reducible repeat (first | apply Kd.R_alloc | apply Kd.R_drewN | apply Kd.R_drew)); exact HO_8.out)) : p := h
theorem zk10 {p : Prop} (h : p := by repeat (first | (with_reducible first | exact HB.out | apply below_alloc | apply pw_below_drewN | apply below_drew1 | refine below_set ?_ GE336.out) | exact HB.out)) : p := h
theorem zk11 {p : Prop} (h : p := by first | exact HO_11.out | ((with_reducible repeat (first | apply Kd.R_alloc | apply Kd.R_drewN | apply Kd.R_drew)); exact HO_11.out)) : p := h
theorem zk12 {p : Prop} (h : p := by repeat (first | exact (Kd.C_below HR0_2.out HB.out) | (with_reducible refine Kd.C_alloc ?_ _) | (with_reducible refine Kd.C_drewN ?_ _) | (with_reducible refine Kd.C_drew ?_))) : p := h
theorem zk13 {p : Prop} (h : p := by repeat (first | exact (Kd.R_reads' HO_12.out).2.2 | (with_reducible refine Kd.C_alloc ?_ _) | (with_reducible refine Kd.C_drewN ?_ _) | (with_reducible refine Kd.C_drew ?_))) : p := h
theorem zk14 {p : Prop} (h : p := by repeat (first | (with_reducible first | exact HB.out | apply below_alloc | apply pw_below_drewN | apply below_drew1) | exact HB.out)) : p := h
theorem zk15 {p : Prop} (h : p := by first | exact HO343.out | ((with_reducible repeat (first | apply Kd.R_alloc | apply Kd.R_drewN | apply Kd.R_drew)); exact HO343.out)) : p := h
theorem zk16 {p : Prop} (h : p := by first | rfl | (simp [errW_none, errW_some] <;> rfl) | (simp [*, errW_none, errW_some] <;> rfl)) : p := h
theorem zk17 {p : Prop} (h : p := by first | exact HO348.out | ((with_reducible repeat (first | apply Kd.R_alloc | apply Kd.R_drewN | apply Kd.R_drew)); exact HO348.out)) : p := h
theorem zk18 {p : Prop} (h : p := by first | exact HO373.out | ((with_reducible repeat (first | apply Kd.R_alloc | apply Kd.R_drewN | apply Kd.R_drew)); exact HO373.out)) : p := h
theorem zk19 {p : Prop} (h : p := by first | exact HO351.out | ((with_reducible repeat (first | apply Kd.R_alloc | apply Kd.R_drewN | apply Kd.R_drew)); exact HO351.out)) : p := h
theorem zk20 {p : Prop} (h : p := by repeat (first | exact (Kd.C_below HR2.out HB.out) | (with_reducible refine Kd.C_alloc ?_ _) | (with_reducible refine Kd.C_drewN ?_ _) | (with_reducible refine Kd.C_drew ?_))) : p := h
theorem zk21 {p : Prop} (h : p := by repeat (first | exact (Kd.R_reads' HO_8.out).2.2 | (with_reducible refine Kd.C_alloc ?_ _) | (with_reducible refine Kd.C_drewN ?_ _) | (with_reducible refine Kd.C_drew ?_))) : p := h
theorem zk22 {p : Prop} (h : p := by (try simp only [List.map_toArray, List.map_cons, List.map_nil]); first | done | (rw [show t385.length = t364.length from (Kd.R_reads' HO_12.out).1.symm] <;> rfl) | rfl | (simp only [List.length_drop, List.length_take]; rfl)) : p := h
theorem zk23 {p : Prop} (h : p := by (with_reducible repeat (first | apply Kd.R_alloc | apply Kd.R_drewN | apply Kd.R_drew)); exact (Kd.R_mono (Kd.R_far (p := ⟨gb358, 2, none⟩) (Kd.R_far (p := ⟨gb358, 1, none⟩) (Kd.R_far (p := ⟨gb358, 0, none⟩) (Kd.R_types HO357.out BK358.out (by decide)) (fun _ hk => hk.2) (.int .i64 t353)) (fun _ hk => hk.2) (.int .i64 t354)) (fun _ hk => hk.2) (.slice Ao41 t355.length co41)) (fun _ h_ => h_.1))) : p := h
theorem zk24 {p : Prop} (h : p := by (with_reducible repeat (first | apply Kd.R_alloc | apply Kd.R_drewN | apply Kd.R_drew)); exact (Kd.R_mono (Kd.R_far (p := ⟨gb358, 2, none⟩) (Kd.R_far (p := ⟨gb358, 1, none⟩) (Kd.R_far (p := ⟨gb358, 0, none⟩) (Kd.R_types HO351.out BK358.out (by decide)) (fun _ hk => hk.2) (.int .i64 t353)) (fun _ hk => hk.2) (.int .i64 t354)) (fun _ hk => hk.2) (.slice Ao41 t355.length co41)) (fun _ h_ => h_.1))) : p := h
theorem zk25 {p : Prop} (h : p := by (with_reducible repeat (first | apply Kd.R_alloc | apply Kd.R_drewN | apply Kd.R_drew)); exact (Kd.R_mono (Kd.R_far (p := ⟨gb358, 2, none⟩) (Kd.R_far (p := ⟨gb358, 1, none⟩) (Kd.R_far (p := ⟨gb358, 0, none⟩) (Kd.R_types HO348.out BK358.out (by decide)) (fun _ hk => hk.2) (.int .i64 t353)) (fun _ hk => hk.2) (.int .i64 t354)) (fun _ hk => hk.2) (.slice Ao41 t355.length co41)) (fun _ h_ => h_.1))) : p := h
theorem zk26 {p : Prop} (h : p := by (with_reducible repeat (first | apply Kd.R_alloc | apply Kd.R_drewN | apply Kd.R_drew)); exact (Kd.R_mono (Kd.R_far (p := ⟨gb358, 2, none⟩) (Kd.R_far (p := ⟨gb358, 1, none⟩) (Kd.R_far (p := ⟨gb358, 0, none⟩) (Kd.R_types HO343.out BK358.out (by decide)) (fun _ hk => hk.2) (.int .i64 t353)) (fun _ hk => hk.2) (.int .i64 t354)) (fun _ hk => hk.2) (.slice Ao41 t355.length co41)) (fun _ h_ => h_.1))) : p := h
theorem zk27 {p : Prop} (h : p := by first | exact HO391.out | ((with_reducible repeat (first | apply Kd.R_alloc | apply Kd.R_drewN | apply Kd.R_drew)); exact HO391.out)) : p := h
theorem zk28 {p : Prop} (h : p := by repeat (first | exact (Kd.R_reads' HO_359002.out).2.2 | (with_reducible refine Kd.C_alloc ?_ _) | (with_reducible refine Kd.C_drewN ?_ _) | (with_reducible refine Kd.C_drew ?_))) : p := h
theorem zk29 {p : Prop} (h : p := by repeat (first | exact (Kd.R_reads' HO373.out).2.2 | (with_reducible refine Kd.C_alloc ?_ _) | (with_reducible refine Kd.C_drewN ?_ _) | (with_reducible refine Kd.C_drew ?_))) : p := h
theorem zk30 {p : Prop} (h : p := by first | exact HO357.out | ((with_reducible repeat (first | apply Kd.R_alloc | apply Kd.R_drewN | apply Kd.R_drew)); exact HO357.out)) : p := h
theorem zk31 {p : Prop} (h : p := by (with_reducible repeat (first | apply Kd.R_alloc | apply Kd.R_drewN | apply Kd.R_drew)); exact Kd.R_mono HO_359002.out (fun _ hk => ⟨hk.1, hk.2.2.1⟩)) : p := h
theorem zk32 {p : Prop} (h : p := by (with_reducible repeat (first | apply Kd.R_alloc | apply Kd.R_drewN | apply Kd.R_drew)); exact Kd.R_mono HO_8.out (fun _ hk => ⟨hk.2.1, hk.2.2.1⟩)) : p := h
theorem zk33 {p : Prop} (h : p := by (with_reducible repeat (first | apply Kd.R_alloc | apply Kd.R_drewN | apply Kd.R_drew)); exact Kd.R_mono HO_12.out (fun _ hk => ⟨hk.1, hk.2.2.1⟩)) : p := h
theorem zk34 {p : Prop} (h : p := by first | rfl | (simp; done) | (simp [*]; done)) : p := h
theorem zk35 {p : Prop} (h : p := by first | exact HO361.out | ((with_reducible repeat (first | apply Kd.R_alloc | apply Kd.R_drewN | apply Kd.R_drew)); exact HO361.out)) : p := h
theorem zk36 {p : Prop} (h : p := by rw [show t385.length = t364.length from (Kd.R_reads' HO_12.out).1.symm]; exact (Kd.R_reads' HO_12.out).2.1) : p := h
theorem zk37 {p : Prop} (h : p := by (try simp only [hl359002_61]); (with_reducible repeat (first | apply Kd.R_alloc | apply Kd.R_drewN | apply Kd.R_drew)); exact Kd.R_mono HO_359002.out (fun _ hk => hk.1.1.1.2)) : p := h
theorem zk38 {p : Prop} (h : p := by (try simp only [hl359002_61]); (with_reducible repeat (first | apply Kd.R_alloc | apply Kd.R_drewN | apply Kd.R_drew)); exact Kd.R_mono HO_12.out (fun _ hk => hk.1.1.1.2)) : p := h
theorem zk39 {p : Prop} (h : p := by (with_reducible repeat (first | apply Kd.R_alloc | apply Kd.R_drewN | apply Kd.R_drew)); exact Kd.R_mono HO366.out (fun _ hk => ⟨hk.1.1.2, ⟨hk.2, hk.1.2⟩⟩)) : p := h
theorem zk40 {p : Prop} (h : p := by (with_reducible repeat (first | apply Kd.R_alloc | apply Kd.R_drewN | apply Kd.R_drew)); exact Kd.R_mono HO361.out (fun _ hk => ⟨hk.1.1.2, ⟨hk.2, hk.1.2⟩⟩)) : p := h
theorem zk41 {p : Prop} (h : p := by (with_reducible repeat (first | apply Kd.R_alloc | apply Kd.R_drewN | apply Kd.R_drew)); exact Kd.R_mono HO357.out (fun _ hk => ⟨hk.1.1.2, ⟨hk.1.2, hk.2⟩⟩)) : p := h
theorem zk42 {p : Prop} (h : p := by (with_reducible repeat (first | apply Kd.R_alloc | apply Kd.R_drewN | apply Kd.R_drew)); exact Kd.R_mono HO351.out (fun _ hk => ⟨hk.1.2, ⟨hk.2, hk.1.1.2⟩⟩)) : p := h
theorem zk43 {p : Prop} (h : p := by repeat (first | exact (Kd.R_reads' HO_11.out).2.2 | (with_reducible refine Kd.C_alloc ?_ _) | (with_reducible refine Kd.C_drewN ?_ _) | (with_reducible refine Kd.C_drew ?_))) : p := h
theorem zk44 {p : Prop} (h : p := by repeat (first | exact (Kd.R_reads' HO399.out).2.2 | (with_reducible refine Kd.C_alloc ?_ _) | (with_reducible refine Kd.C_drewN ?_ _) | (with_reducible refine Kd.C_drew ?_))) : p := h
theorem zk45 {p : Prop} (h : p := by repeat (first | exact (Kd.R_reads' HO377.out).2.2 | (with_reducible refine Kd.C_alloc ?_ _) | (with_reducible refine Kd.C_drewN ?_ _) | (with_reducible refine Kd.C_drew ?_))) : p := h
theorem zk46 {p : Prop} (h : p := by repeat (first | exact (Kd.R_reads' HO366.out).2.2 | (with_reducible refine Kd.C_alloc ?_ _) | (with_reducible refine Kd.C_drewN ?_ _) | (with_reducible refine Kd.C_drew ?_))) : p := h
theorem zk47 {p : Prop} (h : p := by repeat (first | exact (Kd.R_reads' HO351.out).2.2 | (with_reducible refine Kd.C_alloc ?_ _) | (with_reducible refine Kd.C_drewN ?_ _) | (with_reducible refine Kd.C_drew ?_))) : p := h
theorem zk48 {p : Prop} (h : p := by (try simp only [hl359002_61]); first | exact BK358.out | ((with_reducible repeat (first | refine blk_drewN ?_ _ | refine blk_drew ?_ | refine blk_alloc ?_ _)); exact BK358.out)) : p := h
theorem zk49 {p : Prop} (h : p := by (try simp only [hl359002_61]); first | exact BK337.out | ((with_reducible repeat (first | refine blk_drewN ?_ _ | refine blk_drew ?_ | refine blk_alloc ?_ _)); exact BK337.out)) : p := h
theorem zk50 {p : Prop} (h : p := by (try simp only [hl359002_61]); first | exact BK336.out | ((with_reducible repeat (first | refine blk_drewN ?_ _ | refine blk_drew ?_ | refine blk_alloc ?_ _)); exact BK336.out)) : p := h
theorem zk51 {p : Prop} (h : p := by rw [hg]; exact Nat.ne_of_lt (blk_lt (g := gb336) (o := .cells #[.int .i64 a0_0, .int .i64 a0_1, .slice A0_2 l0_2.length c0_2] 24 (0, 0)) zk2)) : p := h
theorem zk52 {p : Prop} (h : p := by rw [hg]; exact Nat.ne_of_gt (blk_lt (g := gb336) (o := .cells #[.int .i64 a0_0, .int .i64 a0_1, .slice A0_2 l0_2.length c0_2] 24 (0, 0)) zk2)) : p := h
theorem zk53 {p : Prop} (h : p := by rw [hg]; exact (below_size zk14)) : p := h
theorem zk54 {p : Prop} (h : p := by rw [hg]; exact (below_size zk10)) : p := h
/-! ### laws_FnExactFillPeaceful: function 4 -/
mutual
def laws_FnExactFillPeaceful.j0 : Nat → List Int → List Int → Bool → List Int → List Int → Bool → Bool → Int → Int → List Int → Int → Int → Int → Int → List Int → Option (Bool)
 | 0, _, _, _, _, _, _, _, _, _, _, _, _, _, _, _ => none
 | k + 1, x2, x8, x9, x11, x12, x13, x57, x337000, x337001, x337002, x338000, x338001, x359000, x359001, x359002 => if x57 = true then (some false) else ((laws_toBoard.f k x337000 x337001 x337002).bind fun bt369 => ((laws_eqBoard.f k x359000 x359001 x359002 bt369.1 bt369.2.1 bt369.2.2).bind fun t374 => (if t374 = true then ((laws_toIntS.f k x2).bind fun t375 => ((laws_eqIntS.f k x11 t375).bind fun t378 => (if t378 = true then ((laws_markBoard.f k x359000 x359001 x359002 1).bind fun bt379 => ((laws_markIntS.f k x11 bt379.1).bind fun bt381 => (if bt381.1 < 0 then (laws_FnExactFillPeaceful.j1 k x2 x8 x9 x12 true x337000 x337001 x337002 x338000 x338001) else ((laws_eqIntS.f k x12 x8).bind fun t383 => (if t383 = true then (laws_FnExactFillPeaceful.j1 k x2 x8 x9 x12 (x13 != x9) x337000 x337001 x337002 x338000 x338001) else (laws_FnExactFillPeaceful.j1 k x2 x8 x9 x12 true x337000 x337001 x337002 x338000 x338001)))))) else (some false)))) else (some false))))
def laws_FnExactFillPeaceful.j1 : Nat → List Int → List Int → Bool → List Int → Bool → Int → Int → List Int → Int → Int → Option (Bool)
 | 0, _, _, _, _, _, _, _, _, _, _ => none
 | k + 1, x2, x8, x9, x12, x86, x337000, x337001, x337002, x338000, x338001 => if x86 = true then (some false) else ((laws_markIntS.f k x12 1).bind fun bt384 => ((laws_heldIntS.f k bt384.2 1).bind fun t386 => (if t386 < 0 then (some false) else (if t386 = bt384.1 then ((laws_toBoard.f k x337000 x337001 x337002).bind fun bt387 => ((laws_toLeaper.f x338000 x338001).bind fun bt392 => ((laws_toIntS.f k x2).bind fun t394 => ((impl_FillPeaceful.f k bt387.1 bt387.2.1 bt387.2.2 bt392.1 bt392.2 t394).bind fun bt397 => ((laws_eqIntS.f k bt397.1 x8).bind fun t401 => (if t401 = true then (laws_FnExactFillPeaceful.j2 k bt384.2 bt384.1 (bt397.2 != x9)) else (laws_FnExactFillPeaceful.j2 k bt384.2 bt384.1 true))))))) else (some false)))))
def laws_FnExactFillPeaceful.j2 : Nat → List Int → Int → Bool → Option (Bool)
 | 0, _, _, _ => none
 | k + 1, x12, x15, x116 => if x116 = true then (some false) else ((laws_heldIntS.f k x12 1).bind fun t402 => (if t402 < 0 then (some false) else (if t402 = x15 then (some true) else (some false))))
end
def laws_FnExactFillPeaceful.f (k : Nat) (a0_0 : Int) (a0_1 : Int) (l0_2 : List Int) (a1_0 : Int) (a1_1 : Int) (l2 : List Int) : Option (Bool) := if (l2.length : Int) > 1048576 then (some true) else ((laws_szBoard.f a0_0 a0_1 l0_2 1048576).bind fun t338 => (if t338 < 0 then (some true) else ((laws_toBoard.f k a0_0 a0_1 l0_2).bind fun bt339 => ((laws_toLeaper.f a1_0 a1_1).bind fun bt344 => ((laws_toIntS.f k l2).bind fun t346 => ((spec_FillPeaceful.f k bt339.1 bt339.2.1 bt339.2.2 bt344.1 bt344.2 t346).bind fun bt349 => ((laws_toBoard.f k a0_0 a0_1 l0_2).bind fun bt353 => ((laws_toIntS.f k l2).bind fun t359 => ((laws_toLeaper.f a1_0 a1_1).bind fun bt362 => ((impl_FillPeaceful.f k bt353.1 bt353.2.1 bt353.2.2 bt362.1 bt362.2 t359).bind fun bt364 => ((laws_eqIntS.f k bt364.1 bt349.1).bind fun t368 => (if t368 = true then (laws_FnExactFillPeaceful.j0 k l2 bt349.1 bt349.2 t359 bt364.1 bt364.2 (bt364.2 != bt349.2) a0_0 a0_1 l0_2 a1_0 a1_1 bt353.1 bt353.2.1 bt353.2.2) else (laws_FnExactFillPeaceful.j0 k l2 bt349.1 bt349.2 t359 bt364.1 bt364.2 true a0_0 a0_1 l0_2 a1_0 a1_1 bt353.1 bt353.2.1 bt353.2.2)))))))))))))
def laws_FnExactFillPeaceful.T7 : Bool × List (List Nat × List Nat) := (true, [([], []), ([0], [0]), ([], []), ([2, 1], [2]), ([], []), ([4, 3], [4]), ([1, 3, 5, 5], [1, 3, 5]), ([6], [6]), ([7], [7]), ([7], [7]), ([8, 6, 0, 1, 2, 3, 4, 5, 6, 7, 8], [8]), ([9, 10, 0, 1, 2, 3, 4, 5, 6, 7, 8, 9, 10], [9])])
def laws_FnExactFillPeaceful.B7 : List Nat := [0, 1, 0, 7, 0, 31, 63, 127, 255, 255, 511, 2047]
theorem laws_FnExactFillPeaceful.tab7 : rtab .any (opsOf Try.f4 7) = laws_FnExactFillPeaceful.T7 := by kernel_rfl
theorem laws_FnExactFillPeaceful.bits7 : waitsOk laws_FnExactFillPeaceful.T7.2 laws_FnExactFillPeaceful.B7 = true := by kernel_rfl
def laws_FnExactFillPeaceful.T10 : Bool × List (List Nat × List Nat) := (true, [([], []), ([], []), ([1], [1]), ([], []), ([0, 2, 3, 2], [0, 2, 3]), ([4], [4]), ([5], [5]), ([5], [5]), ([6, 4, 0, 1, 2, 3, 4, 5, 6], [6]), ([7, 8, 0, 1, 2, 3, 4, 5, 6, 7, 8], [7])])
def laws_FnExactFillPeaceful.B10 : List Nat := [0, 0, 2, 0, 15, 31, 63, 63, 127, 511]
theorem laws_FnExactFillPeaceful.tab10 : rtab .any (opsOf Try.f4 10) = laws_FnExactFillPeaceful.T10 := by kernel_rfl
theorem laws_FnExactFillPeaceful.bits10 : waitsOk laws_FnExactFillPeaceful.T10.2 laws_FnExactFillPeaceful.B10 = true := by kernel_rfl
def laws_FnExactFillPeaceful.T30 : Bool × List (List Nat × List Nat) := (true, [([], []), ([0], [0]), ([], []), ([2, 1], [2]), ([], []), ([4, 3], [4]), ([1, 3, 5, 5], [1, 3, 5]), ([6], [6]), ([7], [7]), ([7], [7]), ([8, 6, 0, 1, 2, 3, 4, 5, 6, 7, 8], [8]), ([9, 10, 0, 1, 2, 3, 4, 5, 6, 7, 8, 9, 10], [9])])
def laws_FnExactFillPeaceful.B30 : List Nat := [0, 1, 0, 7, 0, 31, 63, 127, 255, 255, 511, 2047]
theorem laws_FnExactFillPeaceful.tab30 : rtab .any (opsOf Try.f4 30) = laws_FnExactFillPeaceful.T30 := by kernel_rfl
theorem laws_FnExactFillPeaceful.bits30 : waitsOk laws_FnExactFillPeaceful.T30.2 laws_FnExactFillPeaceful.B30 = true := by kernel_rfl
set_option maxHeartbeats 8000000 in
set_option maxRecDepth 100000 in
theorem laws_FnExactFillPeaceful.calls (k : Nat) (a0_0 : Int) (a0_1 : Int) (A0_2 : Option Addr) (c0_2 : Nat) (l0_2 : List Int) (a1_0 : Int) (a1_1 : Int) (A2 : Option Addr) (c2 : Nat) (l2 : List Int) (r : Bool) (w : World) (hr0_2 : Kd.C (Kd.int .i64) w A0_2 l0_2.length l0_2) (hc0_2 : l0_2.length ≤ c0_2) (hr2 : Kd.C (Kd.int .i64) w A2 l2.length l2) (hc2 : l2.length ≤ c2) (h : laws_FnExactFillPeaceful.f k a0_0 a0_1 l0_2 a1_0 a1_1 l2 = some r) :
  Calls Try.prog 4 #[.agg #[.int .i64 a0_0, .int .i64 a0_1, .slice A0_2 l0_2.length c0_2], .agg #[.int .i64 a1_0, .int .i64 a1_1], .slice A2 l2.length c2] w fun e w' => e = .returned (.bool r) ∧ Below w.heap.size w w' := by
 have hu24 := Try.underlying24
 have hu26 := Try.underlying26
 have hu31 := Try.underlying31
 have HR0_2 := Aside0.mk hr0_2
 have HC0_2 := Aside0.mk hc0_2
 clear hr0_2 hc0_2
 have HR2 := Aside0.mk hr2
 have HC2 := Aside0.mk hc2
 clear hr2 hc2
 have HB := Aside0.mk (Below.refl w.heap.size w)
 have H : (if (l2.length : Int) > 1048576 then (some true) else ((laws_szBoard.f a0_0 a0_1 l0_2 1048576).bind fun t338 => (if t338 < 0 then (some true) else ((laws_toBoard.f k a0_0 a0_1 l0_2).bind fun bt339 => ((laws_toLeaper.f a1_0 a1_1).bind fun bt344 => ((laws_toIntS.f k l2).bind fun t346 => ((spec_FillPeaceful.f k bt339.1 bt339.2.1 bt339.2.2 bt344.1 bt344.2 t346).bind fun bt349 => ((laws_toBoard.f k a0_0 a0_1 l0_2).bind fun bt353 => ((laws_toIntS.f k l2).bind fun t359 => ((laws_toLeaper.f a1_0 a1_1).bind fun bt362 => ((impl_FillPeaceful.f k bt353.1 bt353.2.1 bt353.2.2 bt362.1 bt362.2 t359).bind fun bt364 => ((laws_eqIntS.f k bt364.1 bt349.1).bind fun t368 => (if t368 = true then (laws_FnExactFillPeaceful.j0 k l2 bt349.1 bt349.2 t359 bt364.1 bt364.2 (bt364.2 != bt349.2) a0_0 a0_1 l0_2 a1_0 a1_1 bt353.1 bt353.2.1 bt353.2.2) else (laws_FnExactFillPeaceful.j0 k l2 bt349.1 bt349.2 t359 bt364.1 bt364.2 true a0_0 a0_1 l0_2 a1_0 a1_1 bt353.1 bt353.2.1 bt353.2.2)))))))))))))) = some r := h
 clear h
 by_cases c4 : (l2.length : Int) > 1048576
 ·rw [if_pos c4] at H
  have c4b0 : decide (1048576 < (l2.length : Int)) = true := decide_eq_true c4
  have c4b1 : decide (1048576 < l2.length) = true := decide_eq_true (by omega)
  clear c4
  obtain rfl := Option.some.inj H
  go_enter Try.func4, Try.ntmps4
  go_wp2_with (first | ((with_reducible refine gate_dst (N := 3) rfl ?_); refine box_event ?hg (N := 3) ?hd (cs := #[.int .i64 a0_0, .int .i64 a0_1, .slice A0_2 l0_2.length c0_2]) (t := 24) ?hr ?_; (case hd => rfl); (case hg => rfl); (case hr => first | (go_simp; done) | (go_simp; rfl)); intro gb336 hg w5 hbox hb; have n0_ := Aside0.mk (below_step zk14 hb); have n1_ := Aside0.mk (hbox); have n2_ := Aside0.mk ((zk53 : w.heap.size ≤ gb336)); have n3_ := Aside0.mk ((zk53 : w.heap.size ≤ gb336)); clear HB; have HB := n0_; have BK336 := n1_; have GW336 := n2_; have GE336 := n3_; clear n0_ n1_ n2_ n3_; clear hb hbox hg) | ((with_reducible refine gate_dst (N := 4) rfl ?_); refine box_event ?hg (N := 4) ?hd (cs := #[.int .i64 a1_0, .int .i64 a1_1]) (t := 26) ?hr ?_; (case hd => rfl); (case hg => rfl); (case hr => first | (go_simp; done) | (go_simp; rfl)); intro gb337 hg w6 hbox hb; have n0_ := Aside0.mk (blk_below (g := gb336) (o := .cells #[.int .i64 a0_0, .int .i64 a0_1, .slice A0_2 l0_2.length c0_2] 24 (0, 0)) zk2 hb); have n1_ := Aside0.mk (below_step zk10 hb); have n2_ := Aside0.mk (hbox); have n3_ := Aside0.mk ((zk54 : w.heap.size ≤ gb337)); have n4_ := Aside0.mk ((zk54 : w.heap.size ≤ gb337)); have n5_ := Aside0.mk ((zk51 : gb336 ≠ gb337)); have n6_ := Aside0.mk ((zk52 : gb337 ≠ gb336)); clear BK336; clear HB; have BK336 := n0_; have HB := n1_; have BK337 := n2_; have GW337 := n3_; have GE337 := n4_; have NB336_337 := n5_; have NB337_336 := n6_; clear n0_ n1_ n2_ n3_ n4_ n5_ n6_; clear hb hbox hg))
  go_ret
  exact ⟨zk16, zk5⟩
 rw [if_neg c4] at H
 have c4b0 : decide (1048576 < (l2.length : Int)) = false := decide_eq_false c4
 have c4b1 : decide (1048576 < l2.length) = false := decide_eq_false (by omega)
 clear c4
 replace H := Option.bind_eq_some_iff.mp H
 obtain ⟨t338, A70, H⟩ := H
 replace H : (if t338 < 0 then (some true) else ((laws_toBoard.f k a0_0 a0_1 l0_2).bind fun bt339 => ((laws_toLeaper.f a1_0 a1_1).bind fun bt344 => ((laws_toIntS.f k l2).bind fun t346 => ((spec_FillPeaceful.f k bt339.1 bt339.2.1 bt339.2.2 bt344.1 bt344.2 t346).bind fun bt349 => ((laws_toBoard.f k a0_0 a0_1 l0_2).bind fun bt353 => ((laws_toIntS.f k l2).bind fun t359 => ((laws_toLeaper.f a1_0 a1_1).bind fun bt362 => ((impl_FillPeaceful.f k bt353.1 bt353.2.1 bt353.2.2 bt362.1 bt362.2 t359).bind fun bt364 => ((laws_eqIntS.f k bt364.1 bt349.1).bind fun t368 => (if t368 = true then (laws_FnExactFillPeaceful.j0 k l2 bt349.1 bt349.2 t359 bt364.1 bt364.2 (bt364.2 != bt349.2) a0_0 a0_1 l0_2 a1_0 a1_1 bt353.1 bt353.2.1 bt353.2.2) else (laws_FnExactFillPeaceful.j0 k l2 bt349.1 bt349.2 t359 bt364.1 bt364.2 true a0_0 a0_1 l0_2 a1_0 a1_1 bt353.1 bt353.2.1 bt353.2.2)))))))))))) = some r := H
 have A7 := Aside0.mk A70
 clear A70
 by_cases c8 : t338 < 0
 ·rw [if_pos c8] at H
  have c8b0 : decide (t338 < 0) = true := decide_eq_true c8
  clear c8
  obtain rfl := Option.some.inj H
  go_enter Try.func4, Try.ntmps4
  go_wp2_with (first | ((with_reducible refine gate_dst (N := 3) rfl ?_); refine box_event ?hg (N := 3) ?hd (cs := #[.int .i64 a0_0, .int .i64 a0_1, .slice A0_2 l0_2.length c0_2]) (t := 24) ?hr ?_; (case hd => rfl); (case hg => rfl); (case hr => first | (go_simp; done) | (go_simp; rfl)); intro gb336 hg w9 hbox hb; have n0_ := Aside0.mk (below_step zk14 hb); have n1_ := Aside0.mk (hbox); have n2_ := Aside0.mk ((zk53 : w.heap.size ≤ gb336)); have n3_ := Aside0.mk ((zk53 : w.heap.size ≤ gb336)); clear HB; have HB := n0_; have BK336 := n1_; have GW336 := n2_; have GE336 := n3_; clear n0_ n1_ n2_ n3_; clear hb hbox hg) | ((with_reducible refine gate_dst (N := 4) rfl ?_); refine box_event ?hg (N := 4) ?hd (cs := #[.int .i64 a1_0, .int .i64 a1_1]) (t := 26) ?hr ?_; (case hd => rfl); (case hg => rfl); (case hr => first | (go_simp; done) | (go_simp; rfl)); intro gb337 hg w10 hbox hb; have n0_ := Aside0.mk (blk_below (g := gb336) (o := .cells #[.int .i64 a0_0, .int .i64 a0_1, .slice A0_2 l0_2.length c0_2] 24 (0, 0)) zk2 hb); have n1_ := Aside0.mk (below_step zk10 hb); have n2_ := Aside0.mk (hbox); have n3_ := Aside0.mk ((zk54 : w.heap.size ≤ gb337)); have n4_ := Aside0.mk ((zk54 : w.heap.size ≤ gb337)); have n5_ := Aside0.mk ((zk51 : gb336 ≠ gb337)); have n6_ := Aside0.mk ((zk52 : gb337 ≠ gb336)); clear BK336; clear HB; have BK336 := n0_; have HB := n1_; have BK337 := n2_; have GW337 := n3_; have GE337 := n4_; have NB336_337 := n5_; have NB337_336 := n6_; clear n0_ n1_ n2_ n3_ n4_ n5_ n6_; clear hb hbox hg; have hnb11 := NB336_337.out; have hnc11 := NB337_336.out; have hcz12_0 : w10.cell? ⟨gb336, 0, none⟩ = some (.int .i64 a0_0) := (blk_cell BK336.out 0).trans rfl; have hcz12_1 : w10.cell? ⟨gb336, 1, none⟩ = some (.int .i64 a0_1) := (blk_cell BK336.out 1).trans rfl; have hcz12_2 : w10.cell? ⟨gb336, 2, none⟩ = some (.slice A0_2 l0_2.length c0_2) := (blk_cell BK336.out 2).trans rfl; have hfz12_0 := blk_frozen BK336.out 0; have hfz12_1 := blk_frozen BK336.out 1; have hfz12_2 := blk_frozen BK336.out 2) | ((with_reducible refine gate_callee (f := 7) rfl ?_); refine goesL_ (some 24) rfl rfl Try.func7 (by kernel_rfl) rfl #[.agg #[.int .i64 a0_0, .int .i64 a0_1, .slice A0_2 l0_2.length c0_2], .int .i64 1048576] rfl zk3 ?_; (with_reducible refine (laws_szBoard.calls a0_0 a0_1 _ _ l0_2 1048576 t338 _ ?side1 ?side2 A7.out).mono ?_); (case side1 => exact zk12); (case side2 => exact HC0_2.out); rintro e w13 ⟨rfl, hb⟩; refine ⟨_, rfl, ?_⟩; have n0_ := Aside0.mk (blk_below (g := gb336) (o := .cells #[.int .i64 a0_0, .int .i64 a0_1, .slice A0_2 l0_2.length c0_2] 24 (0, 0)) zk2 hb); have n1_ := Aside0.mk (blk_below (g := gb337) (o := .cells #[.int .i64 a1_0, .int .i64 a1_1] 26 (0, 0)) zk4 hb); have n2_ := Aside0.mk (below_step zk5 hb); clear BK336; clear BK337; clear HB; have BK336 := n0_; have BK337 := n1_; have HB := n2_; clear n0_ n1_ n2_; (try clear hb); (try clear hb2); (try clear hk); (try clear hi); (try clear hna_); (try clear hnb_)))
  go_ret
  exact ⟨zk16, zk5⟩
 rw [if_neg c8] at H
 have c8b0 : decide (t338 < 0) = false := decide_eq_false c8
 clear c8
 replace H := Option.bind_eq_some_iff.mp H
 obtain ⟨⟨t339, t340, t341⟩, A140, H⟩ := H
 replace H : ((laws_toLeaper.f a1_0 a1_1).bind fun bt344 => ((laws_toIntS.f k l2).bind fun t346 => ((spec_FillPeaceful.f k t339 t340 t341 bt344.1 bt344.2 t346).bind fun bt349 => ((laws_toBoard.f k a0_0 a0_1 l0_2).bind fun bt353 => ((laws_toIntS.f k l2).bind fun t359 => ((laws_toLeaper.f a1_0 a1_1).bind fun bt362 => ((impl_FillPeaceful.f k bt353.1 bt353.2.1 bt353.2.2 bt362.1 bt362.2 t359).bind fun bt364 => ((laws_eqIntS.f k bt364.1 bt349.1).bind fun t368 => (if t368 = true then (laws_FnExactFillPeaceful.j0 k l2 bt349.1 bt349.2 t359 bt364.1 bt364.2 (bt364.2 != bt349.2) a0_0 a0_1 l0_2 a1_0 a1_1 bt353.1 bt353.2.1 bt353.2.2) else (laws_FnExactFillPeaceful.j0 k l2 bt349.1 bt349.2 t359 bt364.1 bt364.2 true a0_0 a0_1 l0_2 a1_0 a1_1 bt353.1 bt353.2.1 bt353.2.2)))))))))) = some r := H
 have A14 := Aside0.mk A140
 clear A140
 replace H := Option.bind_eq_some_iff.mp H
 obtain ⟨⟨t344, t345⟩, A150, H⟩ := H
 replace H : ((laws_toIntS.f k l2).bind fun t346 => ((spec_FillPeaceful.f k t339 t340 t341 t344 t345 t346).bind fun bt349 => ((laws_toBoard.f k a0_0 a0_1 l0_2).bind fun bt353 => ((laws_toIntS.f k l2).bind fun t359 => ((laws_toLeaper.f a1_0 a1_1).bind fun bt362 => ((impl_FillPeaceful.f k bt353.1 bt353.2.1 bt353.2.2 bt362.1 bt362.2 t359).bind fun bt364 => ((laws_eqIntS.f k bt364.1 bt349.1).bind fun t368 => (if t368 = true then (laws_FnExactFillPeaceful.j0 k l2 bt349.1 bt349.2 t359 bt364.1 bt364.2 (bt364.2 != bt349.2) a0_0 a0_1 l0_2 a1_0 a1_1 bt353.1 bt353.2.1 bt353.2.2) else (laws_FnExactFillPeaceful.j0 k l2 bt349.1 bt349.2 t359 bt364.1 bt364.2 true a0_0 a0_1 l0_2 a1_0 a1_1 bt353.1 bt353.2.1 bt353.2.2))))))))) = some r := H
 have A15 := Aside0.mk A150
 clear A150
 replace H := Option.bind_eq_some_iff.mp H
 obtain ⟨t346, A160, H⟩ := H
 replace H : ((spec_FillPeaceful.f k t339 t340 t341 t344 t345 t346).bind fun bt349 => ((laws_toBoard.f k a0_0 a0_1 l0_2).bind fun bt353 => ((laws_toIntS.f k l2).bind fun t359 => ((laws_toLeaper.f a1_0 a1_1).bind fun bt362 => ((impl_FillPeaceful.f k bt353.1 bt353.2.1 bt353.2.2 bt362.1 bt362.2 t359).bind fun bt364 => ((laws_eqIntS.f k bt364.1 bt349.1).bind fun t368 => (if t368 = true then (laws_FnExactFillPeaceful.j0 k l2 bt349.1 bt349.2 t359 bt364.1 bt364.2 (bt364.2 != bt349.2) a0_0 a0_1 l0_2 a1_0 a1_1 bt353.1 bt353.2.1 bt353.2.2) else (laws_FnExactFillPeaceful.j0 k l2 bt349.1 bt349.2 t359 bt364.1 bt364.2 true a0_0 a0_1 l0_2 a1_0 a1_1 bt353.1 bt353.2.1 bt353.2.2)))))))) = some r := H
 have A16 := Aside0.mk A160
 clear A160
 replace H := Option.bind_eq_some_iff.mp H
 obtain ⟨⟨t349, t352⟩, A170, H⟩ := H
 replace H : ((laws_toBoard.f k a0_0 a0_1 l0_2).bind fun bt353 => ((laws_toIntS.f k l2).bind fun t359 => ((laws_toLeaper.f a1_0 a1_1).bind fun bt362 => ((impl_FillPeaceful.f k bt353.1 bt353.2.1 bt353.2.2 bt362.1 bt362.2 t359).bind fun bt364 => ((laws_eqIntS.f k bt364.1 t349).bind fun t368 => (if t368 = true then (laws_FnExactFillPeaceful.j0 k l2 t349 t352 t359 bt364.1 bt364.2 (bt364.2 != t352) a0_0 a0_1 l0_2 a1_0 a1_1 bt353.1 bt353.2.1 bt353.2.2) else (laws_FnExactFillPeaceful.j0 k l2 t349 t352 t359 bt364.1 bt364.2 true a0_0 a0_1 l0_2 a1_0 a1_1 bt353.1 bt353.2.1 bt353.2.2))))))) = some r := H
 have A17 := Aside0.mk A170
 clear A170
 replace H := Option.bind_eq_some_iff.mp H
 obtain ⟨⟨t353, t354, t355⟩, A180, H⟩ := H
 replace H : ((laws_toIntS.f k l2).bind fun t359 => ((laws_toLeaper.f a1_0 a1_1).bind fun bt362 => ((impl_FillPeaceful.f k t353 t354 t355 bt362.1 bt362.2 t359).bind fun bt364 => ((laws_eqIntS.f k bt364.1 t349).bind fun t368 => (if t368 = true then (laws_FnExactFillPeaceful.j0 k l2 t349 t352 t359 bt364.1 bt364.2 (bt364.2 != t352) a0_0 a0_1 l0_2 a1_0 a1_1 t353 t354 t355) else (laws_FnExactFillPeaceful.j0 k l2 t349 t352 t359 bt364.1 bt364.2 true a0_0 a0_1 l0_2 a1_0 a1_1 t353 t354 t355)))))) = some r := H
 have A18 := Aside0.mk A180
 clear A180
 replace H := Option.bind_eq_some_iff.mp H
 obtain ⟨t359, A190, H⟩ := H
 replace H : ((laws_toLeaper.f a1_0 a1_1).bind fun bt362 => ((impl_FillPeaceful.f k t353 t354 t355 bt362.1 bt362.2 t359).bind fun bt364 => ((laws_eqIntS.f k bt364.1 t349).bind fun t368 => (if t368 = true then (laws_FnExactFillPeaceful.j0 k l2 t349 t352 t359 bt364.1 bt364.2 (bt364.2 != t352) a0_0 a0_1 l0_2 a1_0 a1_1 t353 t354 t355) else (laws_FnExactFillPeaceful.j0 k l2 t349 t352 t359 bt364.1 bt364.2 true a0_0 a0_1 l0_2 a1_0 a1_1 t353 t354 t355))))) = some r := H
 have A19 := Aside0.mk A190
 clear A190
 replace H := Option.bind_eq_some_iff.mp H
 obtain ⟨⟨t362, t363⟩, A200, H⟩ := H
 replace H : ((impl_FillPeaceful.f k t353 t354 t355 t362 t363 t359).bind fun bt364 => ((laws_eqIntS.f k bt364.1 t349).bind fun t368 => (if t368 = true then (laws_FnExactFillPeaceful.j0 k l2 t349 t352 t359 bt364.1 bt364.2 (bt364.2 != t352) a0_0 a0_1 l0_2 a1_0 a1_1 t353 t354 t355) else (laws_FnExactFillPeaceful.j0 k l2 t349 t352 t359 bt364.1 bt364.2 true a0_0 a0_1 l0_2 a1_0 a1_1 t353 t354 t355)))) = some r := H
 have A20 := Aside0.mk A200
 clear A200
 replace H := Option.bind_eq_some_iff.mp H
 obtain ⟨⟨t364, t367⟩, A210, H⟩ := H
 replace H : ((laws_eqIntS.f k t364 t349).bind fun t368 => (if t368 = true then (laws_FnExactFillPeaceful.j0 k l2 t349 t352 t359 t364 t367 (t367 != t352) a0_0 a0_1 l0_2 a1_0 a1_1 t353 t354 t355) else (laws_FnExactFillPeaceful.j0 k l2 t349 t352 t359 t364 t367 true a0_0 a0_1 l0_2 a1_0 a1_1 t353 t354 t355))) = some r := H
 have A21 := Aside0.mk A210
 clear A210
 have HC22 := Aside0.mk H
 clear H
 go_enter Try.func4, Try.ntmps4
 try go_wp2_with (first | ((with_reducible refine gate_dst (N := 3) rfl ?_); refine box_event ?hg (N := 3) ?hd (cs := #[.int .i64 a0_0, .int .i64 a0_1, .slice A0_2 l0_2.length c0_2]) (t := 24) ?hr ?_; (case hd => rfl); (case hg => rfl); (case hr => first | (go_simp; done) | (go_simp; rfl)); intro gb336 hg w23 hbox hb; have n0_ := Aside0.mk (below_step zk14 hb); have n1_ := Aside0.mk (hbox); have n2_ := Aside0.mk ((zk53 : w.heap.size ≤ gb336)); have n3_ := Aside0.mk ((zk53 : w.heap.size ≤ gb336)); clear HB; have HB := n0_; have BK336 := n1_; have GW336 := n2_; have GE336 := n3_; clear n0_ n1_ n2_ n3_; clear hb hbox hg) | ((with_reducible refine gate_dst (N := 4) rfl ?_); refine box_event ?hg (N := 4) ?hd (cs := #[.int .i64 a1_0, .int .i64 a1_1]) (t := 26) ?hr ?_; (case hd => rfl); (case hg => rfl); (case hr => first | (go_simp; done) | (go_simp; rfl)); intro gb337 hg w24 hbox hb; have n0_ := Aside0.mk (blk_below (g := gb336) (o := .cells #[.int .i64 a0_0, .int .i64 a0_1, .slice A0_2 l0_2.length c0_2] 24 (0, 0)) zk2 hb); have n1_ := Aside0.mk (below_step zk10 hb); have n2_ := Aside0.mk (hbox); have n3_ := Aside0.mk ((zk54 : w.heap.size ≤ gb337)); have n4_ := Aside0.mk ((zk54 : w.heap.size ≤ gb337)); have n5_ := Aside0.mk ((zk51 : gb336 ≠ gb337)); have n6_ := Aside0.mk ((zk52 : gb337 ≠ gb336)); clear BK336; clear HB; have BK336 := n0_; have HB := n1_; have BK337 := n2_; have GW337 := n3_; have GE337 := n4_; have NB336_337 := n5_; have NB337_336 := n6_; clear n0_ n1_ n2_ n3_ n4_ n5_ n6_; clear hb hbox hg; have hnb25 := NB336_337.out; have hnc25 := NB337_336.out; have hcz26_0 : w24.cell? ⟨gb336, 0, none⟩ = some (.int .i64 a0_0) := (blk_cell BK336.out 0).trans rfl; have hcz26_1 : w24.cell? ⟨gb336, 1, none⟩ = some (.int .i64 a0_1) := (blk_cell BK336.out 1).trans rfl; have hcz26_2 : w24.cell? ⟨gb336, 2, none⟩ = some (.slice A0_2 l0_2.length c0_2) := (blk_cell BK336.out 2).trans rfl; have hfz26_0 := blk_frozen BK336.out 0; have hfz26_1 := blk_frozen BK336.out 1; have hfz26_2 := blk_frozen BK336.out 2) | ((with_reducible refine gate_callee (f := 7) rfl ?_); refine goesL_ (some 24) rfl rfl Try.func7 (by kernel_rfl) rfl #[.agg #[.int .i64 a0_0, .int .i64 a0_1, .slice A0_2 l0_2.length c0_2], .int .i64 1048576] rfl zk3 ?_; (with_reducible refine (laws_szBoard.calls a0_0 a0_1 _ _ l0_2 1048576 t338 _ ?side1 ?side2 A7.out).mono ?_); (case side1 => exact zk12); (case side2 => exact HC0_2.out); rintro e w27 ⟨rfl, hb⟩; refine ⟨_, rfl, ?_⟩; have n0_ := Aside0.mk (blk_below (g := gb336) (o := .cells #[.int .i64 a0_0, .int .i64 a0_1, .slice A0_2 l0_2.length c0_2] 24 (0, 0)) zk2 hb); have n1_ := Aside0.mk (blk_below (g := gb337) (o := .cells #[.int .i64 a1_0, .int .i64 a1_1] 26 (0, 0)) zk4 hb); have n2_ := Aside0.mk (below_step zk5 hb); clear BK336; clear BK337; clear HB; have BK336 := n0_; have BK337 := n1_; have HB := n2_; clear n0_ n1_ n2_; (try clear hb); (try clear hb2); (try clear hk); (try clear hi); (try clear hna_); (try clear hnb_)))
 have n0_ := Aside0.mk (blk_drew BK336.out)
 have n1_ := Aside0.mk (blk_drew BK337.out)
 have n2_ := Aside0.mk (below_drew1 HB.out)
 clear BK336
 clear BK337
 clear HB
 have BK336 := n0_
 have BK337 := n1_
 have HB := n2_
 clear n0_ n1_ n2_
 refine start_ (n := 12) (S := fun w' => w'.cell? ⟨gb336, 0, none⟩ = some (.int .i64 a0_0) ∧ w'.cell? ⟨gb336, 1, none⟩ = some (.int .i64 a0_1) ∧ w'.cell? ⟨gb336, 2, none⟩ = some (.slice A0_2 l0_2.length c0_2) ∧ w'.cell? ⟨gb337, 0, none⟩ = some (.int .i64 a1_0) ∧ w'.cell? ⟨gb337, 1, none⟩ = some (.int .i64 a1_1)) (ds := []) #[false, false, false, false, false, false, false, false, false, false, false, false] (by kernel_rfl) rfl rfl ⟨(blk_cell BK336.out 0).trans rfl, (blk_cell BK336.out 1).trans rfl, (blk_cell BK336.out 2).trans rfl, (blk_cell BK337.out 0).trans rfl, (blk_cell BK337.out 1).trans rfl⟩ (fun hHeld => ?_); refine with_tabW laws_FnExactFillPeaceful.tab7 laws_FnExactFillPeaceful.bits7 (fun HT_ HW_ => ?_)
 generalize w27.drew = w28 at BK336 BK337 HB hHeld ⊢
 refine pure_ (i := 4) (N := some 32) (v := ?_) (a' := ?_) #[false, false, false, false, true, false, false, false, false, false, false, false] rfl rfl (any_of HT_.out (by kernel_rfl)) (fun _ _ _ h => h) (Or.inl ⟨by rfl, ?_⟩) ?_ ?_
 rotate_left
 ·intro w'
  go_simp
  with_reducible rfl
 rotate_left
 ·simp only [Act.put, List.setIfInBounds_toArray, List.set_cons_zero, List.set_cons_succ, i64_w, i32_w]
  rfl
 refine take_ (i := 0) (N := some 28) (v := ?_) (a' := ?_) #[true, false, false, false, true, false, false, false, false, false, false, false] rfl rfl (take_ofW HT_.out HW_.out (by kernel_rfl)) (fun _ _ _ h => h) (Or.inl ⟨by rfl, ?_⟩) hHeld ?_ ?_
 rotate_left
 ·rintro w' ⟨s0, s1, s2, s3, s4⟩
  go_simp
  with_reducible rfl
 rotate_left
 ·simp only [Act.put, List.setIfInBounds_toArray, List.set_cons_zero, List.set_cons_succ, i64_w, i32_w]
  rfl
 refine take_ (i := 2) (N := some 30) (v := ?_) (a' := ?_) #[true, false, true, false, true, false, false, false, false, false, false, false] rfl rfl (take_ofW HT_.out HW_.out (by kernel_rfl)) (fun _ _ _ h => h) (Or.inl ⟨by rfl, ?_⟩) hHeld ?_ ?_
 rotate_left
 ·rintro w' ⟨s0, s1, s2, s3, s4⟩
  go_simp
  with_reducible rfl
 rotate_left
 ·simp only [Act.put, List.setIfInBounds_toArray, List.set_cons_zero, List.set_cons_succ, i64_w, i32_w]
  rfl
 refine one_ (i := 1) (N := some 29) #[true, true, true, false, true, false, false, false, false, false, false, false] rfl rfl (one_of HT_.out (by kernel_rfl)) (by decide) (fun K hK => ?_)
 refine goes_ Try.func9 (by kernel_rfl) rfl #[.agg #[.int .i64 a0_0, .int .i64 a0_1, .slice A0_2 l0_2.length c0_2]] (by rfl) rfl rfl zk3 ?_
 with_reducible refine (laws_toBoard.calls k a0_0 a0_1 _ _ l0_2 t339 t340 t341 _ ?side1 ?side2 A14.out).mono ?_
 (case side1 => exact zk12)
 (case side2 => exact HC0_2.out)
 rintro e w29 ⟨v342, rfl, ho0, hb⟩
 refine ⟨_, rfl, ?_⟩
 have n0_ := Aside0.mk (Kd.R_lower ho0 (below_size zk5))
 have n1_ := Aside0.mk (blk_below (g := gb336) (o := .cells #[.int .i64 a0_0, .int .i64 a0_1, .slice A0_2 l0_2.length c0_2] 24 (0, 0)) zk2 hb)
 have n2_ := Aside0.mk (blk_below (g := gb337) (o := .cells #[.int .i64 a1_0, .int .i64 a1_1] 26 (0, 0)) zk4 hb)
 have n3_ := Aside0.mk (below_step zk5 hb)
 clear BK336
 clear BK337
 clear HB
 have HO343 := n0_
 have BK336 := n1_
 have BK337 := n2_
 have HB := n3_
 clear n0_ n1_ n2_ n3_
 (try clear hb)
 (try clear hb2)
 (try clear hk)
 (try clear hi)
 (try clear ho0)
 (try clear hna_)
 (try clear hnb_)
 refine hK.out _ _ ⟨(blk_cell BK336.out 0).trans rfl, (blk_cell BK336.out 1).trans rfl, (blk_cell BK336.out 2).trans rfl, (blk_cell BK337.out 0).trans rfl, (blk_cell BK337.out 1).trans rfl⟩ (fun hHeld => ?_)
 clear hK K
 refine norm_ (a' := ?_) ?_ ?_
 rotate_left
 ·show Act.put _ (some 29) _ = _
  simp only [Act.put, List.setIfInBounds_toArray, List.set_cons_zero, List.set_cons_succ, i64_w, i32_w]
  rfl
 refine one_ (i := 3) (N := some 31) #[true, true, true, true, true, false, false, false, false, false, false, false] rfl rfl (one_of HT_.out (by kernel_rfl)) (by decide) (fun K hK => ?_)
 refine goes_ Try.func10 (by kernel_rfl) rfl #[.agg #[.int .i64 a1_0, .int .i64 a1_1]] (by rfl) rfl rfl zk3 ?_
 with_reducible refine (laws_toLeaper.calls a1_0 a1_1 t344 t345 _ A15.out).mono ?_
 rintro e w30 ⟨rfl, hb⟩
 refine ⟨_, rfl, ?_⟩
 have n0_ := Aside0.mk (Kd.R_below zk15 hb)
 have n1_ := Aside0.mk (blk_below (g := gb336) (o := .cells #[.int .i64 a0_0, .int .i64 a0_1, .slice A0_2 l0_2.length c0_2] 24 (0, 0)) zk2 hb)
 have n2_ := Aside0.mk (blk_below (g := gb337) (o := .cells #[.int .i64 a1_0, .int .i64 a1_1] 26 (0, 0)) zk4 hb)
 have n3_ := Aside0.mk (below_step zk5 hb)
 clear HO343
 clear BK336
 clear BK337
 clear HB
 have HO343 := n0_
 have BK336 := n1_
 have BK337 := n2_
 have HB := n3_
 clear n0_ n1_ n2_ n3_
 (try clear hb)
 (try clear hb2)
 (try clear hk)
 (try clear hi)
 (try clear hna_)
 (try clear hnb_)
 refine hK.out _ _ ⟨(blk_cell BK336.out 0).trans rfl, (blk_cell BK336.out 1).trans rfl, (blk_cell BK336.out 2).trans rfl, (blk_cell BK337.out 0).trans rfl, (blk_cell BK337.out 1).trans rfl⟩ (fun hHeld => ?_)
 clear hK K
 refine norm_ (a' := ?_) ?_ ?_
 rotate_left
 ·show Act.put _ (some 31) _ = _
  simp only [Act.put, List.setIfInBounds_toArray, List.set_cons_zero, List.set_cons_succ, i64_w, i32_w]
  rfl
 refine one_ (i := 5) (N := some 33) #[true, true, true, true, true, true, false, false, false, false, false, false] rfl rfl (one_of HT_.out (by kernel_rfl)) (by decide) (fun K hK => ?_)
 refine goes_ Try.func18 (by kernel_rfl) rfl #[.slice A2 l2.length c2] (by rfl) rfl rfl zk3 ?_
 with_reducible refine (laws_toIntS.calls k _ _ l2 t346 _ ?side1 ?side2 A16.out).mono ?_
 (case side1 => exact zk20)
 (case side2 => exact HC2.out)
 rintro e w31 ⟨v347, rfl, ho0, hb⟩
 refine ⟨_, rfl, ?_⟩
 have n0_ := Aside0.mk (Kd.R_elder' zk15 (Kd.R_base ho0) hb)
 have n1_ := Aside0.mk (Kd.R_lower (Kd.R_new' ho0 (Kd.R_lt zk15)) (below_size zk5))
 have n2_ := Aside0.mk (blk_below (g := gb336) (o := .cells #[.int .i64 a0_0, .int .i64 a0_1, .slice A0_2 l0_2.length c0_2] 24 (0, 0)) zk2 hb)
 have n3_ := Aside0.mk (blk_below (g := gb337) (o := .cells #[.int .i64 a1_0, .int .i64 a1_1] 26 (0, 0)) zk4 hb)
 have n4_ := Aside0.mk (below_step zk5 hb)
 clear HO343
 clear BK336
 clear BK337
 clear HB
 have HO343 := n0_
 have HO348 := n1_
 have BK336 := n2_
 have BK337 := n3_
 have HB := n4_
 clear n0_ n1_ n2_ n3_ n4_
 (try clear hb)
 (try clear hb2)
 (try clear hk)
 (try clear hi)
 (try clear ho0)
 (try clear hna_)
 (try clear hnb_)
 obtain ⟨Ao32, co32, eo32⟩ := Kd.R_slice HO343.out
 (first | subst eo32 | (injection eo32 with f1_ f2_ f3_; have f4_ := f1_.symm; have f5_ := f3_.symm; clear f1_ f2_ f3_; subst f4_; subst f5_))
 obtain ⟨Ao33, co33, eo33⟩ := Kd.R_slice HO348.out
 (first | subst eo33 | (injection eo33 with f1_ f2_ f3_; have f4_ := f1_.symm; have f5_ := f3_.symm; clear f1_ f2_ f3_; subst f4_; subst f5_))
 refine hK.out _ _ ⟨(blk_cell BK336.out 0).trans rfl, (blk_cell BK336.out 1).trans rfl, (blk_cell BK336.out 2).trans rfl, (blk_cell BK337.out 0).trans rfl, (blk_cell BK337.out 1).trans rfl⟩ (fun hHeld => ?_)
 clear hK K
 refine norm_ (a' := ?_) ?_ ?_
 rotate_left
 ·show Act.put _ (some 33) _ = _
  simp only [Act.put, List.setIfInBounds_toArray, List.set_cons_zero, List.set_cons_succ, i64_w, i32_w]
  rfl
 refine one_ (i := 6) (N := some 34) #[true, true, true, true, true, true, true, false, false, false, false, false] rfl rfl (one_of HT_.out (by kernel_rfl)) (by decide) (fun K hK => ?_)
 refine goes_ Try.func17 (by kernel_rfl) rfl #[.agg #[.int .i64 t339, .int .i64 t340, .slice Ao32 t341.length co32], .agg #[.int .i64 t344, .int .i64 t345], .slice Ao33 t346.length co33] (by rfl) rfl rfl zk3 ?_
 with_reducible refine (spec_FillPeaceful.calls k t339 t340 _ _ t341 t344 t345 _ _ t346 t349 t352 _ ?side1 ?side2 ?side3 ?side4 A17.out).mono ?_
 (case side1 => repeat (first | exact (Kd.R_reads' HO343.out).2.2 | (with_reducible refine Kd.C_alloc ?_ _) | (with_reducible refine Kd.C_drewN ?_ _) | (with_reducible refine Kd.C_drew ?_)))
 (case side2 => exact (Kd.R_reads' HO343.out).2.1)
 (case side3 => repeat (first | exact (Kd.R_reads' HO348.out).2.2 | (with_reducible refine Kd.C_alloc ?_ _) | (with_reducible refine Kd.C_drewN ?_ _) | (with_reducible refine Kd.C_drew ?_)))
 (case side4 => exact (Kd.R_reads' HO348.out).2.1)
 rintro e w34 ⟨v350, rfl, ho0, hb⟩
 refine ⟨_, rfl, ?_⟩
 have n0_ := Aside0.mk (Kd.R_elder' zk15 (Kd.R_base ho0) hb)
 have n1_ := Aside0.mk (Kd.R_elder' zk17 (Kd.R_base ho0) hb)
 have n2_ := Aside0.mk (Kd.R_lower (Kd.R_new' (Kd.R_new' ho0 (Kd.R_lt zk15)) (Kd.R_lt zk17)) (below_size zk5))
 have n3_ := Aside0.mk (blk_below (g := gb336) (o := .cells #[.int .i64 a0_0, .int .i64 a0_1, .slice A0_2 l0_2.length c0_2] 24 (0, 0)) zk2 hb)
 have n4_ := Aside0.mk (blk_below (g := gb337) (o := .cells #[.int .i64 a1_0, .int .i64 a1_1] 26 (0, 0)) zk4 hb)
 have n5_ := Aside0.mk (below_step zk5 hb)
 clear HO343
 clear HO348
 clear BK336
 clear BK337
 clear HB
 have HO343 := n0_
 have HO348 := n1_
 have HO351 := n2_
 have BK336 := n3_
 have BK337 := n4_
 have HB := n5_
 clear n0_ n1_ n2_ n3_ n4_ n5_
 (try clear hb)
 (try clear hb2)
 (try clear hk)
 (try clear hi)
 (try clear ho0)
 (try clear hna_)
 (try clear hnb_)
 refine hK.out _ _ ⟨(blk_cell BK336.out 0).trans rfl, (blk_cell BK336.out 1).trans rfl, (blk_cell BK336.out 2).trans rfl, (blk_cell BK337.out 0).trans rfl, (blk_cell BK337.out 1).trans rfl⟩ (fun hHeld => ?_)
 clear hK K
 refine norm_ (a' := ?_) ?_ ?_
 rotate_left
 ·show Act.put _ (some 34) _ = _
  simp only [Act.put, List.setIfInBounds_toArray, List.set_cons_zero, List.set_cons_succ, i64_w, i32_w]
  rfl
 refine pure_ (i := 7) (N := some 27) (v := ?_) (a' := ?_) #[true, true, true, true, true, true, true, true, false, false, false, false] rfl rfl (any_of HT_.out (by kernel_rfl)) (fun _ _ _ h => h) (Or.inl ⟨by rfl, ?_⟩) ?_ ?_
 rotate_left
 ·intro w'
  go_simp
  with_reducible rfl
 rotate_left
 ·simp only [Act.put, List.setIfInBounds_toArray, List.set_cons_zero, List.set_cons_succ, i64_w, i32_w]
  rfl
 refine pure_ (i := 8) (N := some 35) (v := ?_) (a' := ?_) #[true, true, true, true, true, true, true, true, true, false, false, false] rfl rfl (any_of HT_.out (by kernel_rfl)) (fun _ _ _ h => h) (Or.inl ⟨by rfl, ?_⟩) ?_ ?_
 rotate_left
 ·intro w'
  go_simp
  with_reducible rfl
 rotate_left
 ·simp only [Act.put, List.setIfInBounds_toArray, List.set_cons_zero, List.set_cons_succ, i64_w, i32_w]
  rfl
 refine pure_ (i := 9) (N := some 36) (v := ?_) (a' := ?_) #[true, true, true, true, true, true, true, true, true, true, false, false] rfl rfl (any_of HT_.out (by kernel_rfl)) (fun _ _ _ h => h) (Or.inl ⟨by rfl, ?_⟩) ?_ ?_
 rotate_left
 ·intro w'
  go_simp
  with_reducible rfl
 rotate_left
 ·simp only [Act.put, List.setIfInBounds_toArray, List.set_cons_zero, List.set_cons_succ, i64_w, i32_w]
  rfl
 refine pure_ (i := 10) (N := some 8) (v := ?_) (a' := ?_) #[true, true, true, true, true, true, true, true, true, true, true, false] rfl rfl (any_of HT_.out (by kernel_rfl)) (fun _ _ _ h => h) (Or.inl ⟨by rfl, ?_⟩) ?_ ?_
 rotate_left
 ·intro w'
  go_simp
  with_reducible rfl
 rotate_left
 ·simp only [Act.put, List.setIfInBounds_toArray, List.set_cons_zero, List.set_cons_succ, i64_w, i32_w]
  rfl
 refine pure_ (i := 11) (N := some 9) (v := ?_) (a' := ?_) #[true, true, true, true, true, true, true, true, true, true, true, true] rfl rfl (any_of HT_.out (by kernel_rfl)) (fun _ _ _ h => h) (Or.inl ⟨by rfl, ?_⟩) ?_ ?_
 rotate_left
 ·intro w'
  go_simp
  with_reducible rfl
 rotate_left
 ·simp only [Act.put, List.setIfInBounds_toArray, List.set_cons_zero, List.set_cons_succ, i64_w, i32_w]
  rfl
 refine done_ (done_of HT_.out (by kernel_rfl)) ?_
 have hcz35_0 : w34.cell? ⟨gb336, 0, none⟩ = some (.int .i64 a0_0) := (blk_cell BK336.out 0).trans rfl
 have hcz35_1 : w34.cell? ⟨gb336, 1, none⟩ = some (.int .i64 a0_1) := (blk_cell BK336.out 1).trans rfl
 have hcz35_2 : w34.cell? ⟨gb336, 2, none⟩ = some (.slice A0_2 l0_2.length c0_2) := (blk_cell BK336.out 2).trans rfl
 have hfz35_0 := blk_frozen BK336.out 0
 have hfz35_1 := blk_frozen BK336.out 1
 have hfz35_2 := blk_frozen BK336.out 2
 try go_wp2_with (first | ((with_reducible refine gate_callee (f := 9) rfl ?_); refine goesL_ (some 38) rfl rfl Try.func9 (by kernel_rfl) rfl #[.agg #[.int .i64 a0_0, .int .i64 a0_1, .slice A0_2 l0_2.length c0_2]] rfl zk3 ?_; (with_reducible refine (laws_toBoard.calls k a0_0 a0_1 _ _ l0_2 t353 t354 t355 _ ?side1 ?side2 A18.out).mono ?_); (case side1 => exact zk12); (case side2 => exact HC0_2.out); rintro e w36 ⟨v356, rfl, ho0, hb⟩; refine ⟨_, rfl, ?_⟩; have n0_ := Aside0.mk (Kd.R_elder' zk15 (Kd.R_base ho0) hb); have n1_ := Aside0.mk (Kd.R_elder' zk17 (Kd.R_base ho0) hb); have n2_ := Aside0.mk (Kd.R_elder' zk19 (Kd.R_base ho0) hb); have n3_ := Aside0.mk (Kd.R_lower (Kd.R_new' (Kd.R_new' (Kd.R_new' ho0 (Kd.R_lt zk15)) (Kd.R_lt zk17)) (Kd.R_lt zk19)) (below_size zk5)); have n4_ := Aside0.mk (blk_below (g := gb336) (o := .cells #[.int .i64 a0_0, .int .i64 a0_1, .slice A0_2 l0_2.length c0_2] 24 (0, 0)) zk2 hb); have n5_ := Aside0.mk (blk_below (g := gb337) (o := .cells #[.int .i64 a1_0, .int .i64 a1_1] 26 (0, 0)) zk4 hb); have n6_ := Aside0.mk (below_step zk5 hb); clear HO343; clear HO348; clear HO351; clear BK336; clear BK337; clear HB; have HO343 := n0_; have HO348 := n1_; have HO351 := n2_; have HO357 := n3_; have BK336 := n4_; have BK337 := n5_; have HB := n6_; clear n0_ n1_ n2_ n3_ n4_ n5_ n6_; (try clear hb); (try clear hb2); (try clear hk); (try clear hi); (try clear ho0); (try clear hna_); (try clear hnb_)) | ((with_reducible refine gate_dst (N := 10) rfl ?_); refine box_event ?hg (N := 10) ?hd (cs := #[.int .i64 0, .int .i64 0, .slice none 0 0]) (t := 31) ?hr ?_; (case hd => rfl); (case hg => rfl); (case hr => first | (go_simp; done) | (go_simp; rfl)); intro gb358 hg w37 hbox hb; have n0_ := Aside0.mk (Kd.R_below zk15 hb); have n1_ := Aside0.mk (Kd.R_below zk17 hb); have n2_ := Aside0.mk (Kd.R_below zk19 hb); have n3_ := Aside0.mk (Kd.R_below zk30 hb); have n4_ := Aside0.mk (blk_below (g := gb336) (o := .cells #[.int .i64 a0_0, .int .i64 a0_1, .slice A0_2 l0_2.length c0_2] 24 (0, 0)) zk2 hb); have n5_ := Aside0.mk (blk_below (g := gb337) (o := .cells #[.int .i64 a1_0, .int .i64 a1_1] 26 (0, 0)) zk4 hb); have n6_ := Aside0.mk (below_step zk5 hb); have n7_ := Aside0.mk (hbox); have n8_ := Aside0.mk ((by rw [hg]; exact (below_size zk5) : w.heap.size ≤ gb358)); have n9_ := Aside0.mk ((by rw [hg]; exact (below_size zk5) : w.heap.size ≤ gb358)); have n10_ := Aside0.mk ((zk51 : gb336 ≠ gb358)); have n11_ := Aside0.mk ((zk52 : gb358 ≠ gb336)); have n12_ := Aside0.mk ((by rw [hg]; exact Nat.ne_of_lt (blk_lt (g := gb337) (o := .cells #[.int .i64 a1_0, .int .i64 a1_1] 26 (0, 0)) zk4) : gb337 ≠ gb358)); have n13_ := Aside0.mk ((by rw [hg]; exact Nat.ne_of_gt (blk_lt (g := gb337) (o := .cells #[.int .i64 a1_0, .int .i64 a1_1] 26 (0, 0)) zk4) : gb358 ≠ gb337)); clear HO343; clear HO348; clear HO351; clear HO357; clear BK336; clear BK337; clear HB; have HO343 := n0_; have HO348 := n1_; have HO351 := n2_; have HO357 := n3_; have BK336 := n4_; have BK337 := n5_; have HB := n6_; have BK358 := n7_; have GW358 := n8_; have GE358 := n9_; have NB336_358 := n10_; have NB358_336 := n11_; have NB337_358 := n12_; have NB358_337 := n13_; clear n0_ n1_ n2_ n3_ n4_ n5_ n6_ n7_ n8_ n9_ n10_ n11_ n12_ n13_; clear hb hbox hg; have hnb38 := NB358_336.out; have hnc38 := NB336_358.out; have hnb39 := NB358_337.out; have hnc39 := NB337_358.out; have hcz40_0 : w37.cell? ⟨gb358, 0, none⟩ = some (.int .i64 0) := (blk_cell BK358.out 0).trans rfl; have hcz40_1 : w37.cell? ⟨gb358, 1, none⟩ = some (.int .i64 0) := (blk_cell BK358.out 1).trans rfl; have hcz40_2 : w37.cell? ⟨gb358, 2, none⟩ = some (.slice none 0 0) := (blk_cell BK358.out 2).trans rfl; have hfz40_0 := blk_frozen BK358.out 0; have hfz40_1 := blk_frozen BK358.out 1; have hfz40_2 := blk_frozen BK358.out 2; obtain ⟨Ao41, co41, eo41⟩ := Kd.R_slice HO357.out; subst eo41) | ((with_reducible refine gate_callee (f := 18) rfl ?_); refine goesL_ (some 40) rfl rfl Try.func18 (by kernel_rfl) rfl #[.slice A2 l2.length c2] rfl zk3 ?_; (with_reducible refine (laws_toIntS.calls k _ _ l2 t359 _ ?side1 ?side2 A19.out).mono ?_); (case side1 => exact Kd.C_below HR2.out zk1); (case side2 => exact HC2.out); rintro e w42 ⟨v360, rfl, ho0, hb⟩; refine ⟨_, rfl, ?_⟩; have n0_ := Aside0.mk (Kd.R_elder' zk26 (Kd.R_base ho0) hb); have n1_ := Aside0.mk (Kd.R_elder' zk25 (Kd.R_base ho0) hb); have n2_ := Aside0.mk (Kd.R_elder' zk24 (Kd.R_base ho0) hb); have n3_ := Aside0.mk (Kd.R_elder' zk23 (Kd.R_base ho0) hb); have n4_ := Aside0.mk (Kd.R_lower (Kd.R_new' (Kd.R_new' (Kd.R_new' (Kd.R_new' ho0 (Kd.R_lt zk26)) (Kd.R_lt zk25)) (Kd.R_lt zk24)) (Kd.R_lt zk23)) (below_size zk1)); have n5_ := Aside0.mk (blk_below (g := gb336) (o := .cells #[.int .i64 a0_0, .int .i64 a0_1, .slice A0_2 l0_2.length c0_2] 24 (0, 0)) (by (with_reducible repeat (first | refine blk_drewN ?_ _ | refine blk_drew ?_ | refine blk_alloc ?_ _)); refine blk_far ?_ NB336_358.out _; (with_reducible repeat (first | refine blk_drewN ?_ _ | refine blk_drew ?_ | refine blk_alloc ?_ _)); refine blk_far ?_ NB336_358.out _; (with_reducible repeat (first | refine blk_drewN ?_ _ | refine blk_drew ?_ | refine blk_alloc ?_ _)); refine blk_far ?_ NB336_358.out _; first | exact BK336.out | ((with_reducible repeat (first | refine blk_drewN ?_ _ | refine blk_drew ?_ | refine blk_alloc ?_ _)); exact BK336.out)) hb); have n6_ := Aside0.mk (blk_below (g := gb337) (o := .cells #[.int .i64 a1_0, .int .i64 a1_1] 26 (0, 0)) (by (with_reducible repeat (first | refine blk_drewN ?_ _ | refine blk_drew ?_ | refine blk_alloc ?_ _)); refine blk_far ?_ NB337_358.out _; (with_reducible repeat (first | refine blk_drewN ?_ _ | refine blk_drew ?_ | refine blk_alloc ?_ _)); refine blk_far ?_ NB337_358.out _; (with_reducible repeat (first | refine blk_drewN ?_ _ | refine blk_drew ?_ | refine blk_alloc ?_ _)); refine blk_far ?_ NB337_358.out _; first | exact BK337.out | ((with_reducible repeat (first | refine blk_drewN ?_ _ | refine blk_drew ?_ | refine blk_alloc ?_ _)); exact BK337.out)) hb); have n7_ := Aside0.mk (blk_below (g := gb358) (o := .cells #[.int .i64 t353, .int .i64 t354, .slice Ao41 t355.length co41] 31 (0, 0)) (by (with_reducible repeat (first | refine blk_drewN ?_ _ | refine blk_drew ?_ | refine blk_alloc ?_ _)); refine blk_put (cs := #[.int .i64 t353, .int .i64 t354, .slice none 0 0]) ?_ 2 _ rfl; (with_reducible repeat (first | refine blk_drewN ?_ _ | refine blk_drew ?_ | refine blk_alloc ?_ _)); refine blk_put (cs := #[.int .i64 t353, .int .i64 0, .slice none 0 0]) ?_ 1 _ rfl; (with_reducible repeat (first | refine blk_drewN ?_ _ | refine blk_drew ?_ | refine blk_alloc ?_ _)); refine blk_put (cs := #[.int .i64 0, .int .i64 0, .slice none 0 0]) ?_ 0 _ rfl; first | exact BK358.out | ((with_reducible repeat (first | refine blk_drewN ?_ _ | refine blk_drew ?_ | refine blk_alloc ?_ _)); exact BK358.out)) hb); have n8_ := Aside0.mk (below_step zk1 hb); clear HO343; clear HO348; clear HO351; clear HO357; clear BK336; clear BK337; clear BK358; clear HB; have HO343 := n0_; have HO348 := n1_; have HO351 := n2_; have HO357 := n3_; have HO361 := n4_; have BK336 := n5_; have BK337 := n6_; have BK358 := n7_; have HB := n8_; clear n0_ n1_ n2_ n3_ n4_ n5_ n6_ n7_ n8_; (try clear hb); (try clear hb2); (try clear hk); (try clear hi); (try clear ho0); (try clear hna_); (try clear hnb_)))
 have n0_ := Aside0.mk (Kd.R_drew HO343.out)
 have n1_ := Aside0.mk (Kd.R_drew HO348.out)
 have n2_ := Aside0.mk (Kd.R_drew HO351.out)
 have n3_ := Aside0.mk (Kd.R_drew HO357.out)
 have n4_ := Aside0.mk (Kd.R_drew HO361.out)
 have n5_ := Aside0.mk (blk_drew BK336.out)
 have n6_ := Aside0.mk (blk_drew BK337.out)
 have n7_ := Aside0.mk (blk_drew BK358.out)
 have n8_ := Aside0.mk (below_drew1 HB.out)
 clear HO343
 clear HO348
 clear HO351
 clear HO357
 clear HO361
 clear BK336
 clear BK337
 clear BK358
 clear HB
 have HO343 := n0_
 have HO348 := n1_
 have HO351 := n2_
 have HO357 := n3_
 have HO361 := n4_
 have BK336 := n5_
 have BK337 := n6_
 have BK358 := n7_
 have HB := n8_
 clear n0_ n1_ n2_ n3_ n4_ n5_ n6_ n7_ n8_
 refine start_ (n := 10) (S := fun w' => w'.cell? ⟨gb358, 0, none⟩ = some (.int .i64 t353) ∧ w'.cell? ⟨gb358, 1, none⟩ = some (.int .i64 t354) ∧ w'.cell? ⟨gb358, 2, none⟩ = some (.slice Ao41 t355.length co41) ∧ w'.cell? ⟨gb337, 0, none⟩ = some (.int .i64 a1_0) ∧ w'.cell? ⟨gb337, 1, none⟩ = some (.int .i64 a1_1)) (ds := []) #[false, false, false, false, false, false, false, false, false, false] (by kernel_rfl) rfl rfl ⟨(blk_cell BK358.out 0).trans rfl, (blk_cell BK358.out 1).trans rfl, (blk_cell BK358.out 2).trans rfl, (blk_cell BK337.out 0).trans rfl, (blk_cell BK337.out 1).trans rfl⟩ (fun hHeld => ?_); refine with_tabW laws_FnExactFillPeaceful.tab10 laws_FnExactFillPeaceful.bits10 (fun HT_ HW_ => ?_)
 generalize w42.drew = w43 at HO343 HO348 HO351 HO357 HO361 BK336 BK337 BK358 HB hHeld ⊢
 refine pure_ (i := 3) (N := some 45) (v := ?_) (a' := ?_) #[false, false, false, true, false, false, false, false, false, false] rfl rfl (any_of HT_.out (by kernel_rfl)) (fun _ _ _ h => h) (Or.inl ⟨by rfl, ?_⟩) ?_ ?_
 rotate_left
 ·intro w'
  go_simp
  with_reducible rfl
 rotate_left
 ·simp only [Act.put, List.setIfInBounds_toArray, List.set_cons_zero, List.set_cons_succ, i64_w, i32_w]
  rfl
 refine take_ (i := 0) (N := some 42) (v := ?_) (a' := ?_) #[true, false, false, true, false, false, false, false, false, false] rfl rfl (take_ofW HT_.out HW_.out (by kernel_rfl)) (fun _ _ _ h => h) (Or.inl ⟨by rfl, ?_⟩) hHeld ?_ ?_
 rotate_left
 ·rintro w' ⟨s0, s1, s2, s3, s4⟩
  go_simp
  with_reducible rfl
 rotate_left
 ·simp only [Act.put, List.setIfInBounds_toArray, List.set_cons_zero, List.set_cons_succ, i64_w, i32_w]
  rfl
 refine take_ (i := 1) (N := some 43) (v := ?_) (a' := ?_) #[true, true, false, true, false, false, false, false, false, false] rfl rfl (take_ofW HT_.out HW_.out (by kernel_rfl)) (fun _ _ _ h => h) (Or.inl ⟨by rfl, ?_⟩) hHeld ?_ ?_
 rotate_left
 ·rintro w' ⟨s0, s1, s2, s3, s4⟩
  go_simp
  with_reducible rfl
 rotate_left
 ·simp only [Act.put, List.setIfInBounds_toArray, List.set_cons_zero, List.set_cons_succ, i64_w, i32_w]
  rfl
 refine one_ (i := 2) (N := some 44) #[true, true, true, true, false, false, false, false, false, false] rfl rfl (one_of HT_.out (by kernel_rfl)) (by decide) (fun K hK => ?_)
 refine goes_ Try.func10 (by kernel_rfl) rfl #[.agg #[.int .i64 a1_0, .int .i64 a1_1]] (by rfl) rfl rfl zk3 ?_
 with_reducible refine (laws_toLeaper.calls a1_0 a1_1 t362 t363 _ A20.out).mono ?_
 rintro e w44 ⟨rfl, hb⟩
 refine ⟨_, rfl, ?_⟩
 have n0_ := Aside0.mk (Kd.R_below zk15 hb)
 have n1_ := Aside0.mk (Kd.R_below zk17 hb)
 have n2_ := Aside0.mk (Kd.R_below zk19 hb)
 have n3_ := Aside0.mk (Kd.R_below zk30 hb)
 have n4_ := Aside0.mk (Kd.R_below zk35 hb)
 have n5_ := Aside0.mk (blk_below (g := gb336) (o := .cells #[.int .i64 a0_0, .int .i64 a0_1, .slice A0_2 l0_2.length c0_2] 24 (0, 0)) zk2 hb)
 have n6_ := Aside0.mk (blk_below (g := gb337) (o := .cells #[.int .i64 a1_0, .int .i64 a1_1] 26 (0, 0)) zk4 hb)
 have n7_ := Aside0.mk (blk_below (g := gb358) (o := .cells #[.int .i64 t353, .int .i64 t354, .slice Ao41 t355.length co41] 31 (0, 0)) zk6 hb)
 have n8_ := Aside0.mk (below_step zk1 hb)
 clear HO343
 clear HO348
 clear HO351
 clear HO357
 clear HO361
 clear BK336
 clear BK337
 clear BK358
 clear HB
 have HO343 := n0_
 have HO348 := n1_
 have HO351 := n2_
 have HO357 := n3_
 have HO361 := n4_
 have BK336 := n5_
 have BK337 := n6_
 have BK358 := n7_
 have HB := n8_
 clear n0_ n1_ n2_ n3_ n4_ n5_ n6_ n7_ n8_
 (try clear hb)
 (try clear hb2)
 (try clear hk)
 (try clear hi)
 (try clear hna_)
 (try clear hnb_)
 obtain ⟨Ao45, co45, eo45⟩ := Kd.R_slice HO361.out
 (first | subst eo45 | (injection eo45 with f1_ f2_ f3_; have f4_ := f1_.symm; have f5_ := f3_.symm; clear f1_ f2_ f3_; subst f4_; subst f5_))
 refine hK.out _ _ ⟨(blk_cell BK358.out 0).trans rfl, (blk_cell BK358.out 1).trans rfl, (blk_cell BK358.out 2).trans rfl, (blk_cell BK337.out 0).trans rfl, (blk_cell BK337.out 1).trans rfl⟩ (fun hHeld => ?_)
 clear hK K
 refine norm_ (a' := ?_) ?_ ?_
 rotate_left
 ·show Act.put _ (some 44) _ = _
  simp only [Act.put, List.setIfInBounds_toArray, List.set_cons_zero, List.set_cons_succ, i64_w, i32_w]
  rfl
 refine one_ (i := 4) (N := some 46) #[true, true, true, true, true, false, false, false, false, false] rfl rfl (one_of HT_.out (by kernel_rfl)) (by decide) (fun K hK => ?_)
 refine goes_ Try.func19 (by kernel_rfl) rfl #[.agg #[.int .i64 t353, .int .i64 t354, .slice Ao41 t355.length co41], .agg #[.int .i64 t362, .int .i64 t363], .slice Ao45 t359.length co45] (by rfl) rfl rfl zk3 ?_
 with_reducible refine (impl_FillPeaceful.calls k t353 t354 _ _ t355 t362 t363 _ _ t359 t364 t367 _ ?side1 ?side2 ?side3 ?side4 A21.out).mono ?_
 (case side1 => repeat (first | exact (Kd.R_reads' HO357.out).2.2 | (with_reducible refine Kd.C_alloc ?_ _) | (with_reducible refine Kd.C_drewN ?_ _) | (with_reducible refine Kd.C_drew ?_)))
 (case side2 => exact (Kd.R_reads' HO357.out).2.1)
 (case side3 => repeat (first | exact (Kd.R_reads' HO361.out).2.2 | (with_reducible refine Kd.C_alloc ?_ _) | (with_reducible refine Kd.C_drewN ?_ _) | (with_reducible refine Kd.C_drew ?_)))
 (case side4 => exact (Kd.R_reads' HO361.out).2.1)
 rintro e w46 ⟨v365, rfl, ho0, hb⟩
 refine ⟨_, rfl, ?_⟩
 have n0_ := Aside0.mk (Kd.R_elder' zk15 (Kd.R_base ho0) hb)
 have n1_ := Aside0.mk (Kd.R_elder' zk17 (Kd.R_base ho0) hb)
 have n2_ := Aside0.mk (Kd.R_elder' zk19 (Kd.R_base ho0) hb)
 have n3_ := Aside0.mk (Kd.R_elder' zk30 (Kd.R_base ho0) hb)
 have n4_ := Aside0.mk (Kd.R_elder' zk35 (Kd.R_base ho0) hb)
 have n5_ := Aside0.mk (Kd.R_lower (Kd.R_new' (Kd.R_new' (Kd.R_new' (Kd.R_new' (Kd.R_new' ho0 (Kd.R_lt zk15)) (Kd.R_lt zk17)) (Kd.R_lt zk19)) (Kd.R_lt zk30)) (Kd.R_lt zk35)) (below_size zk1))
 have n6_ := Aside0.mk (blk_below (g := gb336) (o := .cells #[.int .i64 a0_0, .int .i64 a0_1, .slice A0_2 l0_2.length c0_2] 24 (0, 0)) zk2 hb)
 have n7_ := Aside0.mk (blk_below (g := gb337) (o := .cells #[.int .i64 a1_0, .int .i64 a1_1] 26 (0, 0)) zk4 hb)
 have n8_ := Aside0.mk (blk_below (g := gb358) (o := .cells #[.int .i64 t353, .int .i64 t354, .slice Ao41 t355.length co41] 31 (0, 0)) zk6 hb)
 have n9_ := Aside0.mk (below_step zk1 hb)
 clear HO343
 clear HO348
 clear HO351
 clear HO357
 clear HO361
 clear BK336
 clear BK337
 clear BK358
 clear HB
 have HO343 := n0_
 have HO348 := n1_
 have HO351 := n2_
 have HO357 := n3_
 have HO361 := n4_
 have HO366 := n5_
 have BK336 := n6_
 have BK337 := n7_
 have BK358 := n8_
 have HB := n9_
 clear n0_ n1_ n2_ n3_ n4_ n5_ n6_ n7_ n8_ n9_
 (try clear hb)
 (try clear hb2)
 (try clear hk)
 (try clear hi)
 (try clear ho0)
 (try clear hna_)
 (try clear hnb_)
 refine hK.out _ _ ⟨(blk_cell BK358.out 0).trans rfl, (blk_cell BK358.out 1).trans rfl, (blk_cell BK358.out 2).trans rfl, (blk_cell BK337.out 0).trans rfl, (blk_cell BK337.out 1).trans rfl⟩ (fun hHeld => ?_)
 clear hK K
 refine norm_ (a' := ?_) ?_ ?_
 rotate_left
 ·show Act.put _ (some 46) _ = _
  simp only [Act.put, List.setIfInBounds_toArray, List.set_cons_zero, List.set_cons_succ, i64_w, i32_w]
  rfl
 refine pure_ (i := 5) (N := some 41) (v := ?_) (a' := ?_) #[true, true, true, true, true, true, false, false, false, false] rfl rfl (any_of HT_.out (by kernel_rfl)) (fun _ _ _ h => h) (Or.inl ⟨by rfl, ?_⟩) ?_ ?_
 rotate_left
 ·intro w'
  go_simp
  with_reducible rfl
 rotate_left
 ·simp only [Act.put, List.setIfInBounds_toArray, List.set_cons_zero, List.set_cons_succ, i64_w, i32_w]
  rfl
 refine pure_ (i := 6) (N := some 47) (v := ?_) (a' := ?_) #[true, true, true, true, true, true, true, false, false, false] rfl rfl (any_of HT_.out (by kernel_rfl)) (fun _ _ _ h => h) (Or.inl ⟨by rfl, ?_⟩) ?_ ?_
 rotate_left
 ·intro w'
  go_simp
  with_reducible rfl
 rotate_left
 ·simp only [Act.put, List.setIfInBounds_toArray, List.set_cons_zero, List.set_cons_succ, i64_w, i32_w]
  rfl
 refine pure_ (i := 7) (N := some 48) (v := ?_) (a' := ?_) #[true, true, true, true, true, true, true, true, false, false] rfl rfl (any_of HT_.out (by kernel_rfl)) (fun _ _ _ h => h) (Or.inl ⟨by rfl, ?_⟩) ?_ ?_
 rotate_left
 ·intro w'
  go_simp
  with_reducible rfl
 rotate_left
 ·simp only [Act.put, List.setIfInBounds_toArray, List.set_cons_zero, List.set_cons_succ, i64_w, i32_w]
  rfl
 refine pure_ (i := 8) (N := some 12) (v := ?_) (a' := ?_) #[true, true, true, true, true, true, true, true, true, false] rfl rfl (any_of HT_.out (by kernel_rfl)) (fun _ _ _ h => h) (Or.inl ⟨by rfl, ?_⟩) ?_ ?_
 rotate_left
 ·intro w'
  go_simp
  with_reducible rfl
 rotate_left
 ·simp only [Act.put, List.setIfInBounds_toArray, List.set_cons_zero, List.set_cons_succ, i64_w, i32_w]
  rfl
 refine pure_ (i := 9) (N := some 13) (v := ?_) (a' := ?_) #[true, true, true, true, true, true, true, true, true, true] rfl rfl (any_of HT_.out (by kernel_rfl)) (fun _ _ _ h => h) (Or.inl ⟨by rfl, ?_⟩) ?_ ?_
 rotate_left
 ·intro w'
  go_simp
  with_reducible rfl
 rotate_left
 ·simp only [Act.put, List.setIfInBounds_toArray, List.set_cons_zero, List.set_cons_succ, i64_w, i32_w]
  rfl
 refine done_ (done_of HT_.out (by kernel_rfl)) ?_
 go_upto_region 11 with (fail)
 go_cut [57] (fun v57 wc => ∃ (kq : Nat) (x57_21 : Bool), v57 = .bool x57_21 ∧ Aside0 (laws_FnExactFillPeaceful.j0 kq l2 t349 t352 t359 t364 t367 x57_21 a0_0 a0_1 l0_2 a1_0 a1_1 t353 t354 t355 = some r) ∧ Aside0 (kq ≤ k) ∧ Aside0 (Kd.R (Kd.int .i64) 3 wc w.heap.size (fun k_ => some k_ ≠ ((.slice Ao45 t359.length co45) : Value).ownBlock ∧ some k_ ≠ (v365 : Value).ownBlock ∧ some k_ ≠ ((.slice Ao41 t355.length co41) : Value).ownBlock) v350 t349) ∧ Aside0 (Kd.R (Kd.int .i64) 3 wc w.heap.size (fun k_ => some k_ ≠ (v350 : Value).ownBlock ∧ some k_ ≠ (v365 : Value).ownBlock ∧ some k_ ≠ ((.slice Ao41 t355.length co41) : Value).ownBlock) (.slice Ao45 t359.length co45) t359) ∧ Aside0 (Kd.R (Kd.int .i64) 3 wc w.heap.size (fun k_ => some k_ ≠ (v350 : Value).ownBlock ∧ some k_ ≠ ((.slice Ao45 t359.length co45) : Value).ownBlock ∧ some k_ ≠ ((.slice Ao41 t355.length co41) : Value).ownBlock) v365 t364) ∧ Aside0 (Kd.R (Kd.int .i64) 3 wc w.heap.size (fun k_ => some k_ ≠ (v350 : Value).ownBlock ∧ some k_ ≠ ((.slice Ao45 t359.length co45) : Value).ownBlock ∧ some k_ ≠ (v365 : Value).ownBlock) (.slice Ao41 t355.length co41) t355) ∧ Aside0 (wc.heap[gb336]? = some (.cells #[.int .i64 a0_0, .int .i64 a0_1, (.slice A0_2 l0_2.length c0_2)] 24 (0, 0))) ∧ Aside0 (wc.heap[gb337]? = some (.cells #[.int .i64 a1_0, .int .i64 a1_1] 26 (0, 0))) ∧ Aside0 (wc.heap[gb358]? = some (.cells #[.int .i64 t353, .int .i64 t354, (.slice Ao41 t355.length co41)] 31 (0, 0))) ∧ Aside0 (Below w.heap.size w wc))
 case first =>
  have H := HC22.out
  clear HC22
  replace H := Option.bind_eq_some_iff.mp H
  obtain ⟨t368, A470, H⟩ := H
  replace H : (if t368 = true then (laws_FnExactFillPeaceful.j0 k l2 t349 t352 t359 t364 t367 (t367 != t352) a0_0 a0_1 l0_2 a1_0 a1_1 t353 t354 t355) else (laws_FnExactFillPeaceful.j0 k l2 t349 t352 t359 t364 t367 true a0_0 a0_1 l0_2 a1_0 a1_1 t353 t354 t355)) = some r := H
  have A47 := Aside0.mk A470
  clear A470
  by_cases c48 : t368 = true
  ·subst c48
   have H1 : (laws_FnExactFillPeaceful.j0 k l2 t349 t352 t359 t364 t367 (t367 != t352) a0_0 a0_1 l0_2 a1_0 a1_1 t353 t354 t355) = some r := by rw [if_pos rfl] at H; exact H
   clear H
   have H := H1
   clear H1
   have H' := Aside0.mk H
   clear H
   obtain ⟨Ao49, co49, eo49⟩ := Kd.R_slice HO366.out
   subst eo49
   obtain ⟨Ao50, co50, eo50⟩ := Kd.R_slice HO351.out
   subst eo50
   go_wp2_with (first | ((with_reducible refine gate_callee (f := 20) rfl ?_); refine goesL_ (some 51) rfl rfl Try.func20 (by kernel_rfl) rfl #[.slice Ao49 t364.length co49, .slice Ao50 t349.length co50] rfl zk3 ?_; (with_reducible refine (laws_eqIntS.calls k _ _ t364 _ _ t349 true _ ?side1 ?side2 ?side3 ?side4 A47.out).mono ?_); (case side1 => exact zk46); (case side2 => exact (Kd.R_reads' HO366.out).2.1); (case side3 => exact zk47); (case side4 => exact (Kd.R_reads' HO351.out).2.1); rintro e w' ⟨rfl, ⟨nd, rfl⟩⟩; refine ⟨_, rfl, ?_⟩))
   go_meet
   case rel => exact ⟨_, ((t367 != t352)), zk34, H', ⟨by first | omega | exact Nat.le_refl _⟩, ⟨zk42⟩, ⟨zk40⟩, ⟨zk39⟩, ⟨zk41⟩, ⟨zk2⟩, ⟨zk4⟩, ⟨zk6⟩, ⟨zk1⟩⟩
  replace c48 := Bool.eq_false_iff.mpr c48
  subst c48
  have H1 : (laws_FnExactFillPeaceful.j0 k l2 t349 t352 t359 t364 t367 true a0_0 a0_1 l0_2 a1_0 a1_1 t353 t354 t355) = some r := by rw [if_neg (show ¬ (false = true) by decide)] at H; exact H
  clear H
  have H := H1
  clear H1
  have H' := Aside0.mk H
  clear H
  obtain ⟨Ao51, co51, eo51⟩ := Kd.R_slice HO366.out
  subst eo51
  obtain ⟨Ao52, co52, eo52⟩ := Kd.R_slice HO351.out
  subst eo52
  go_wp2_with (first | ((with_reducible refine gate_callee (f := 20) rfl ?_); refine goesL_ (some 51) rfl rfl Try.func20 (by kernel_rfl) rfl #[.slice Ao51 t364.length co51, .slice Ao52 t349.length co52] rfl zk3 ?_; (with_reducible refine (laws_eqIntS.calls k _ _ t364 _ _ t349 false _ ?side1 ?side2 ?side3 ?side4 A47.out).mono ?_); (case side1 => exact zk46); (case side2 => exact (Kd.R_reads' HO366.out).2.1); (case side3 => exact zk47); (case side4 => exact (Kd.R_reads' HO351.out).2.1); rintro e w' ⟨rfl, ⟨nd, rfl⟩⟩; refine ⟨_, rfl, ?_⟩))
  go_meet
  case rel => exact ⟨_, (true), zk34, H', ⟨by first | omega | exact Nat.le_refl _⟩, ⟨zk42⟩, ⟨zk40⟩, ⟨zk39⟩, ⟨zk41⟩, ⟨zk2⟩, ⟨zk4⟩, ⟨zk6⟩, ⟨zk1⟩⟩
 case rest =>
  clear HC22
  try clear c1; try clear c2; try clear p2; try clear c3; try clear c4; try clear c4b0; try clear c4b1; try clear c7; try clear c8; try clear c8b0; try clear c9; try clear c10; try clear c11; try clear c17; try clear c18; try clear c19; try clear c20; try clear c25; try clear c38; try clear c39; try clear c48; try clear hcz12_0; try clear hcz12_1; try clear hcz12_2; try clear hcz26_0; try clear hcz26_1; try clear hcz26_2; try clear hcz35_0; try clear hcz35_1; try clear hcz35_2; try clear hcz40_0; try clear hcz40_1; try clear hcz40_2; try clear hfz12_0; try clear hfz12_1; try clear hfz12_2; try clear hfz26_0
  try clear hfz26_1; try clear hfz26_2; try clear hfz35_0; try clear hfz35_1; try clear hfz35_2; try clear hfz40_0; try clear hfz40_1; try clear hfz40_2
  obtain ⟨kq, x57_21, rfl, HA, HJ21, HO_8, HO_11, HO_12, HO_359002, BK336, BK337, BK358, HB⟩ := hcut
  cases kq with
  | zero => exact absurd HA.out (by simp [laws_FnExactFillPeaceful.j0])
  | succ kj21 =>
   have H := HA.out
   clear HA
   simp only [laws_FnExactFillPeaceful.j0] at H
   by_cases c53 : x57_21 = true
   ·subst c53
    have H1 : (some false) = some r := by rw [if_pos rfl] at H; exact H
    clear H
    have H := H1
    clear H1
    obtain rfl := Option.some.inj H
    go_wp2
    go_ret
    exact ⟨zk16, zk1⟩
   replace c53 := Bool.eq_false_iff.mpr c53
   subst c53
   have H1 : ((laws_toBoard.f kj21 a0_0 a0_1 l0_2).bind fun bt369 => ((laws_eqBoard.f kj21 t353 t354 t355 bt369.1 bt369.2.1 bt369.2.2).bind fun t374 => (if t374 = true then ((laws_toIntS.f kj21 l2).bind fun t375 => ((laws_eqIntS.f kj21 t359 t375).bind fun t378 => (if t378 = true then ((laws_markBoard.f kj21 t353 t354 t355 1).bind fun bt379 => ((laws_markIntS.f kj21 t359 bt379.1).bind fun bt381 => (if bt381.1 < 0 then (laws_FnExactFillPeaceful.j1 kj21 l2 t349 t352 t364 true a0_0 a0_1 l0_2 a1_0 a1_1) else ((laws_eqIntS.f kj21 t364 t349).bind fun t383 => (if t383 = true then (laws_FnExactFillPeaceful.j1 kj21 l2 t349 t352 t364 (t367 != t352) a0_0 a0_1 l0_2 a1_0 a1_1) else (laws_FnExactFillPeaceful.j1 kj21 l2 t349 t352 t364 true a0_0 a0_1 l0_2 a1_0 a1_1)))))) else (some false)))) else (some false)))) = some r := by rw [if_neg (show ¬ (false = true) by decide)] at H; exact H
   clear H
   have H := H1
   clear H1
   replace H := Option.bind_eq_some_iff.mp H
   obtain ⟨⟨t369, t370, t371⟩, A540, H⟩ := H
   replace H : ((laws_eqBoard.f kj21 t353 t354 t355 t369 t370 t371).bind fun t374 => (if t374 = true then ((laws_toIntS.f kj21 l2).bind fun t375 => ((laws_eqIntS.f kj21 t359 t375).bind fun t378 => (if t378 = true then ((laws_markBoard.f kj21 t353 t354 t355 1).bind fun bt379 => ((laws_markIntS.f kj21 t359 bt379.1).bind fun bt381 => (if bt381.1 < 0 then (laws_FnExactFillPeaceful.j1 kj21 l2 t349 t352 t364 true a0_0 a0_1 l0_2 a1_0 a1_1) else ((laws_eqIntS.f kj21 t364 t349).bind fun t383 => (if t383 = true then (laws_FnExactFillPeaceful.j1 kj21 l2 t349 t352 t364 (t367 != t352) a0_0 a0_1 l0_2 a1_0 a1_1) else (laws_FnExactFillPeaceful.j1 kj21 l2 t349 t352 t364 true a0_0 a0_1 l0_2 a1_0 a1_1)))))) else (some false)))) else (some false))) = some r := H
   have A54 := Aside0.mk A540
   clear A540
   replace H := Option.bind_eq_some_iff.mp H
   obtain ⟨t374, A550, H⟩ := H
   replace H : (if t374 = true then ((laws_toIntS.f kj21 l2).bind fun t375 => ((laws_eqIntS.f kj21 t359 t375).bind fun t378 => (if t378 = true then ((laws_markBoard.f kj21 t353 t354 t355 1).bind fun bt379 => ((laws_markIntS.f kj21 t359 bt379.1).bind fun bt381 => (if bt381.1 < 0 then (laws_FnExactFillPeaceful.j1 kj21 l2 t349 t352 t364 true a0_0 a0_1 l0_2 a1_0 a1_1) else ((laws_eqIntS.f kj21 t364 t349).bind fun t383 => (if t383 = true then (laws_FnExactFillPeaceful.j1 kj21 l2 t349 t352 t364 (t367 != t352) a0_0 a0_1 l0_2 a1_0 a1_1) else (laws_FnExactFillPeaceful.j1 kj21 l2 t349 t352 t364 true a0_0 a0_1 l0_2 a1_0 a1_1)))))) else (some false)))) else (some false)) = some r := H
   have A55 := Aside0.mk A550
   clear A550
   by_cases c56 : t374 = true
   rotate_left
   ·replace c56 := Bool.eq_false_iff.mpr c56
    subst c56
    have H1 : (some false) = some r := by rw [if_neg (show ¬ (false = true) by decide)] at H; exact H
    clear H
    have H := H1
    clear H1
    obtain rfl := Option.some.inj H
    try go_wp2
    have n0_ := Aside0.mk (Kd.R_drew HO_8.out)
    have n1_ := Aside0.mk (Kd.R_drew HO_11.out)
    have n2_ := Aside0.mk (Kd.R_drew HO_12.out)
    have n3_ := Aside0.mk (Kd.R_drew HO_359002.out)
    have n4_ := Aside0.mk (blk_drew BK336.out)
    have n5_ := Aside0.mk (blk_drew BK337.out)
    have n6_ := Aside0.mk (blk_drew BK358.out)
    have n7_ := Aside0.mk (below_drew1 HB.out)
    clear HO_8
    clear HO_11
    clear HO_12
    clear HO_359002
    clear BK336
    clear BK337
    clear BK358
    clear HB
    have HO_8 := n0_
    have HO_11 := n1_
    have HO_12 := n2_
    have HO_359002 := n3_
    have BK336 := n4_
    have BK337 := n5_
    have BK358 := n6_
    have HB := n7_
    clear n0_ n1_ n2_ n3_ n4_ n5_ n6_ n7_
    refine start_ (n := 5) (S := fun w' => w'.cell? ⟨gb358, 0, none⟩ = some (.int .i64 t353) ∧ w'.cell? ⟨gb358, 1, none⟩ = some (.int .i64 t354) ∧ w'.cell? ⟨gb358, 2, none⟩ = some (.slice Ao41 t355.length co41) ∧ w'.cell? ⟨gb336, 0, none⟩ = some (.int .i64 a0_0) ∧ w'.cell? ⟨gb336, 1, none⟩ = some (.int .i64 a0_1) ∧ w'.cell? ⟨gb336, 2, none⟩ = some (.slice A0_2 l0_2.length c0_2)) (ds := []) #[false, false, false, false, false] (by kernel_rfl) rfl rfl ⟨(blk_cell BK358.out 0).trans rfl, (blk_cell BK358.out 1).trans rfl, (blk_cell BK358.out 2).trans rfl, (blk_cell BK336.out 0).trans rfl, (blk_cell BK336.out 1).trans rfl, (blk_cell BK336.out 2).trans rfl⟩ (fun hHeld => ?_)
    generalize wc.drew = w120 at HO_8 HO_11 HO_12 HO_359002 BK336 BK337 BK358 HB hHeld ⊢
    refine take_ (i := 0) (N := some 58) (v := ?_) (a' := ?_) #[true, false, false, false, false] rfl rfl (by kernel_rfl) (fun _ _ _ h => h) (Or.inl ⟨by rfl, ?_⟩) hHeld ?_ ?_
    rotate_left
    ·rintro w' ⟨s0, s1, s2, s3, s4, s5⟩
     go_simp
     with_reducible rfl
    rotate_left
    ·simp only [Act.put, List.setIfInBounds_toArray, List.set_cons_zero, List.set_cons_succ, i64_w, i32_w]
     rfl
    refine take_ (i := 1) (N := some 59) (v := ?_) (a' := ?_) #[true, true, false, false, false] rfl rfl (by kernel_rfl) (fun _ _ _ h => h) (Or.inl ⟨by rfl, ?_⟩) hHeld ?_ ?_
    rotate_left
    ·rintro w' ⟨s0, s1, s2, s3, s4, s5⟩
     go_simp
     with_reducible rfl
    rotate_left
    ·simp only [Act.put, List.setIfInBounds_toArray, List.set_cons_zero, List.set_cons_succ, i64_w, i32_w]
     rfl
    refine one_ (i := 2) (N := some 60) #[true, true, true, false, false] rfl rfl (by kernel_rfl) (by decide) (fun K hK => ?_)
    refine goes_ Try.func9 (by kernel_rfl) rfl #[.agg #[.int .i64 a0_0, .int .i64 a0_1, .slice A0_2 l0_2.length c0_2]] (by rfl) rfl rfl zk3 ?_
    with_reducible refine (laws_toBoard.calls kj21 a0_0 a0_1 _ _ l0_2 t369 t370 t371 _ ?side1 ?side2 A54.out).mono ?_
    (case side1 => exact zk12)
    (case side2 => exact HC0_2.out)
    rintro e w121 ⟨v372, rfl, ho0, hb⟩
    refine ⟨_, rfl, ?_⟩
    have n0_ := Aside0.mk (Kd.R_elder' zk9 (Kd.R_base ho0) hb)
    have n1_ := Aside0.mk (Kd.R_elder' zk11 (Kd.R_base ho0) hb)
    have n2_ := Aside0.mk (Kd.R_elder' zk8 (Kd.R_base ho0) hb)
    have n3_ := Aside0.mk (Kd.R_elder' zk7 (Kd.R_base ho0) hb)
    have n4_ := Aside0.mk (Kd.R_lower (Kd.R_new' (Kd.R_new' (Kd.R_new' (Kd.R_new' ho0 (Kd.R_lt zk9)) (Kd.R_lt zk11)) (Kd.R_lt zk8)) (Kd.R_lt zk7)) (below_size zk1))
    have n5_ := Aside0.mk (blk_below (g := gb336) (o := .cells #[.int .i64 a0_0, .int .i64 a0_1, .slice A0_2 l0_2.length c0_2] 24 (0, 0)) zk2 hb)
    have n6_ := Aside0.mk (blk_below (g := gb337) (o := .cells #[.int .i64 a1_0, .int .i64 a1_1] 26 (0, 0)) zk4 hb)
    have n7_ := Aside0.mk (blk_below (g := gb358) (o := .cells #[.int .i64 t353, .int .i64 t354, .slice Ao41 t355.length co41] 31 (0, 0)) zk6 hb)
    have n8_ := Aside0.mk (below_step zk1 hb)
    clear HO_8
    clear HO_11
    clear HO_12
    clear HO_359002
    clear BK336
    clear BK337
    clear BK358
    clear HB
    have HO_8 := n0_
    have HO_11 := n1_
    have HO_12 := n2_
    have HO_359002 := n3_
    have HO373 := n4_
    have BK336 := n5_
    have BK337 := n6_
    have BK358 := n7_
    have HB := n8_
    clear n0_ n1_ n2_ n3_ n4_ n5_ n6_ n7_ n8_
    (try clear hb)
    (try clear hb2)
    (try clear hk)
    (try clear hi)
    (try clear ho0)
    (try clear hna_)
    (try clear hnb_)
    obtain ⟨Ao122, co122, eo122⟩ := Kd.R_slice HO373.out
    (first | subst eo122 | (injection eo122 with f1_ f2_ f3_; have f4_ := f1_.symm; have f5_ := f3_.symm; clear f1_ f2_ f3_; subst f4_; subst f5_))
    refine hK.out _ _ ⟨(blk_cell BK358.out 0).trans rfl, (blk_cell BK358.out 1).trans rfl, (blk_cell BK358.out 2).trans rfl, (blk_cell BK336.out 0).trans rfl, (blk_cell BK336.out 1).trans rfl, (blk_cell BK336.out 2).trans rfl⟩ (fun hHeld => ?_)
    clear hK K
    refine norm_ (a' := ?_) ?_ ?_
    rotate_left
    ·show Act.put _ (some 60) _ = _
     simp only [Act.put, List.setIfInBounds_toArray, List.set_cons_zero, List.set_cons_succ, i64_w, i32_w]
     rfl
    refine one_ (i := 3) (N := some 61) #[true, true, true, true, false] rfl rfl (by kernel_rfl) (by decide) (fun K hK => ?_)
    refine goes_ Try.func13 (by kernel_rfl) rfl #[.agg #[.int .i64 t353, .int .i64 t354, .slice Ao41 t355.length co41], .agg #[.int .i64 t369, .int .i64 t370, .slice Ao122 t371.length co122]] (by rfl) rfl rfl zk3 ?_
    with_reducible refine (laws_eqBoard.calls kj21 t353 t354 _ _ t355 t369 t370 _ _ t371 false _ ?side1 ?side2 ?side3 ?side4 A55.out).mono ?_
    (case side1 => exact zk28)
    (case side2 => exact (Kd.R_reads' HO_359002.out).2.1)
    (case side3 => exact zk29)
    (case side4 => exact (Kd.R_reads' HO373.out).2.1)
    rintro e w123 ⟨rfl, hb⟩
    refine ⟨_, rfl, ?_⟩
    have n0_ := Aside0.mk (Kd.R_below zk9 hb)
    have n1_ := Aside0.mk (Kd.R_below zk11 hb)
    have n2_ := Aside0.mk (Kd.R_below zk8 hb)
    have n3_ := Aside0.mk (Kd.R_below zk7 hb)
    have n4_ := Aside0.mk (Kd.R_below zk18 hb)
    have n5_ := Aside0.mk (blk_below (g := gb336) (o := .cells #[.int .i64 a0_0, .int .i64 a0_1, .slice A0_2 l0_2.length c0_2] 24 (0, 0)) zk2 hb)
    have n6_ := Aside0.mk (blk_below (g := gb337) (o := .cells #[.int .i64 a1_0, .int .i64 a1_1] 26 (0, 0)) zk4 hb)
    have n7_ := Aside0.mk (blk_below (g := gb358) (o := .cells #[.int .i64 t353, .int .i64 t354, .slice Ao41 t355.length co41] 31 (0, 0)) zk6 hb)
    have n8_ := Aside0.mk (below_step zk1 hb)
    clear HO_8
    clear HO_11
    clear HO_12
    clear HO_359002
    clear HO373
    clear BK336
    clear BK337
    clear BK358
    clear HB
    have HO_8 := n0_
    have HO_11 := n1_
    have HO_12 := n2_
    have HO_359002 := n3_
    have HO373 := n4_
    have BK336 := n5_
    have BK337 := n6_
    have BK358 := n7_
    have HB := n8_
    clear n0_ n1_ n2_ n3_ n4_ n5_ n6_ n7_ n8_
    (try clear hb)
    (try clear hb2)
    (try clear hk)
    (try clear hi)
    (try clear hna_)
    (try clear hnb_)
    refine hK.out _ _ ⟨(blk_cell BK358.out 0).trans rfl, (blk_cell BK358.out 1).trans rfl, (blk_cell BK358.out 2).trans rfl, (blk_cell BK336.out 0).trans rfl, (blk_cell BK336.out 1).trans rfl, (blk_cell BK336.out 2).trans rfl⟩ (fun hHeld => ?_)
    clear hK K
    refine norm_ (a' := ?_) ?_ ?_
    rotate_left
    ·show Act.put _ (some 61) _ = _
     simp only [Act.put, List.setIfInBounds_toArray, List.set_cons_zero, List.set_cons_succ, i64_w, i32_w]
     rfl
    refine pure_ (i := 4) (N := some 62) (v := ?_) (a' := ?_) #[true, true, true, true, true] rfl rfl (by kernel_rfl) (fun _ _ _ h => h) (Or.inl ⟨by rfl, ?_⟩) ?_ ?_
    rotate_left
    ·intro w'
     go_simp
     with_reducible rfl
    rotate_left
    ·simp only [Act.put, List.setIfInBounds_toArray, List.set_cons_zero, List.set_cons_succ, i64_w, i32_w]
     rfl
    refine done_ (by kernel_rfl) ?_
    try go_wp2
    go_ret
    exact ⟨zk16, zk1⟩
   subst c56
   have H1 : ((laws_toIntS.f kj21 l2).bind fun t375 => ((laws_eqIntS.f kj21 t359 t375).bind fun t378 => (if t378 = true then ((laws_markBoard.f kj21 t353 t354 t355 1).bind fun bt379 => ((laws_markIntS.f kj21 t359 bt379.1).bind fun bt381 => (if bt381.1 < 0 then (laws_FnExactFillPeaceful.j1 kj21 l2 t349 t352 t364 true a0_0 a0_1 l0_2 a1_0 a1_1) else ((laws_eqIntS.f kj21 t364 t349).bind fun t383 => (if t383 = true then (laws_FnExactFillPeaceful.j1 kj21 l2 t349 t352 t364 (t367 != t352) a0_0 a0_1 l0_2 a1_0 a1_1) else (laws_FnExactFillPeaceful.j1 kj21 l2 t349 t352 t364 true a0_0 a0_1 l0_2 a1_0 a1_1)))))) else (some false)))) = some r := by rw [if_pos rfl] at H; exact H
   clear H
   have H := H1
   clear H1
   replace H := Option.bind_eq_some_iff.mp H
   obtain ⟨t375, A570, H⟩ := H
   replace H : ((laws_eqIntS.f kj21 t359 t375).bind fun t378 => (if t378 = true then ((laws_markBoard.f kj21 t353 t354 t355 1).bind fun bt379 => ((laws_markIntS.f kj21 t359 bt379.1).bind fun bt381 => (if bt381.1 < 0 then (laws_FnExactFillPeaceful.j1 kj21 l2 t349 t352 t364 true a0_0 a0_1 l0_2 a1_0 a1_1) else ((laws_eqIntS.f kj21 t364 t349).bind fun t383 => (if t383 = true then (laws_FnExactFillPeaceful.j1 kj21 l2 t349 t352 t364 (t367 != t352) a0_0 a0_1 l0_2 a1_0 a1_1) else (laws_FnExactFillPeaceful.j1 kj21 l2 t349 t352 t364 true a0_0 a0_1 l0_2 a1_0 a1_1)))))) else (some false))) = some r := H
   have A57 := Aside0.mk A570
   clear A570
   replace H := Option.bind_eq_some_iff.mp H
   obtain ⟨t378, A580, H⟩ := H
   replace H : (if t378 = true then ((laws_markBoard.f kj21 t353 t354 t355 1).bind fun bt379 => ((laws_markIntS.f kj21 t359 bt379.1).bind fun bt381 => (if bt381.1 < 0 then (laws_FnExactFillPeaceful.j1 kj21 l2 t349 t352 t364 true a0_0 a0_1 l0_2 a1_0 a1_1) else ((laws_eqIntS.f kj21 t364 t349).bind fun t383 => (if t383 = true then (laws_FnExactFillPeaceful.j1 kj21 l2 t349 t352 t364 (t367 != t352) a0_0 a0_1 l0_2 a1_0 a1_1) else (laws_FnExactFillPeaceful.j1 kj21 l2 t349 t352 t364 true a0_0 a0_1 l0_2 a1_0 a1_1)))))) else (some false)) = some r := H
   have A58 := Aside0.mk A580
   clear A580
   by_cases c59 : t378 = true
   rotate_left
   ·replace c59 := Bool.eq_false_iff.mpr c59
    subst c59
    have H1 : (some false) = some r := by rw [if_neg (show ¬ (false = true) by decide)] at H; exact H
    clear H
    have H := H1
    clear H1
    obtain rfl := Option.some.inj H
    try go_wp2
    have n0_ := Aside0.mk (Kd.R_drew HO_8.out)
    have n1_ := Aside0.mk (Kd.R_drew HO_11.out)
    have n2_ := Aside0.mk (Kd.R_drew HO_12.out)
    have n3_ := Aside0.mk (Kd.R_drew HO_359002.out)
    have n4_ := Aside0.mk (blk_drew BK336.out)
    have n5_ := Aside0.mk (blk_drew BK337.out)
    have n6_ := Aside0.mk (blk_drew BK358.out)
    have n7_ := Aside0.mk (below_drew1 HB.out)
    clear HO_8
    clear HO_11
    clear HO_12
    clear HO_359002
    clear BK336
    clear BK337
    clear BK358
    clear HB
    have HO_8 := n0_
    have HO_11 := n1_
    have HO_12 := n2_
    have HO_359002 := n3_
    have BK336 := n4_
    have BK337 := n5_
    have BK358 := n6_
    have HB := n7_
    clear n0_ n1_ n2_ n3_ n4_ n5_ n6_ n7_
    refine start_ (n := 5) (S := fun w' => w'.cell? ⟨gb358, 0, none⟩ = some (.int .i64 t353) ∧ w'.cell? ⟨gb358, 1, none⟩ = some (.int .i64 t354) ∧ w'.cell? ⟨gb358, 2, none⟩ = some (.slice Ao41 t355.length co41) ∧ w'.cell? ⟨gb336, 0, none⟩ = some (.int .i64 a0_0) ∧ w'.cell? ⟨gb336, 1, none⟩ = some (.int .i64 a0_1) ∧ w'.cell? ⟨gb336, 2, none⟩ = some (.slice A0_2 l0_2.length c0_2)) (ds := []) #[false, false, false, false, false] (by kernel_rfl) rfl rfl ⟨(blk_cell BK358.out 0).trans rfl, (blk_cell BK358.out 1).trans rfl, (blk_cell BK358.out 2).trans rfl, (blk_cell BK336.out 0).trans rfl, (blk_cell BK336.out 1).trans rfl, (blk_cell BK336.out 2).trans rfl⟩ (fun hHeld => ?_)
    generalize wc.drew = w114 at HO_8 HO_11 HO_12 HO_359002 BK336 BK337 BK358 HB hHeld ⊢
    refine take_ (i := 0) (N := some 58) (v := ?_) (a' := ?_) #[true, false, false, false, false] rfl rfl (by kernel_rfl) (fun _ _ _ h => h) (Or.inl ⟨by rfl, ?_⟩) hHeld ?_ ?_
    rotate_left
    ·rintro w' ⟨s0, s1, s2, s3, s4, s5⟩
     go_simp
     with_reducible rfl
    rotate_left
    ·simp only [Act.put, List.setIfInBounds_toArray, List.set_cons_zero, List.set_cons_succ, i64_w, i32_w]
     rfl
    refine take_ (i := 1) (N := some 59) (v := ?_) (a' := ?_) #[true, true, false, false, false] rfl rfl (by kernel_rfl) (fun _ _ _ h => h) (Or.inl ⟨by rfl, ?_⟩) hHeld ?_ ?_
    rotate_left
    ·rintro w' ⟨s0, s1, s2, s3, s4, s5⟩
     go_simp
     with_reducible rfl
    rotate_left
    ·simp only [Act.put, List.setIfInBounds_toArray, List.set_cons_zero, List.set_cons_succ, i64_w, i32_w]
     rfl
    refine one_ (i := 2) (N := some 60) #[true, true, true, false, false] rfl rfl (by kernel_rfl) (by decide) (fun K hK => ?_)
    refine goes_ Try.func9 (by kernel_rfl) rfl #[.agg #[.int .i64 a0_0, .int .i64 a0_1, .slice A0_2 l0_2.length c0_2]] (by rfl) rfl rfl zk3 ?_
    with_reducible refine (laws_toBoard.calls kj21 a0_0 a0_1 _ _ l0_2 t369 t370 t371 _ ?side1 ?side2 A54.out).mono ?_
    (case side1 => exact zk12)
    (case side2 => exact HC0_2.out)
    rintro e w115 ⟨v372, rfl, ho0, hb⟩
    refine ⟨_, rfl, ?_⟩
    have n0_ := Aside0.mk (Kd.R_elder' zk9 (Kd.R_base ho0) hb)
    have n1_ := Aside0.mk (Kd.R_elder' zk11 (Kd.R_base ho0) hb)
    have n2_ := Aside0.mk (Kd.R_elder' zk8 (Kd.R_base ho0) hb)
    have n3_ := Aside0.mk (Kd.R_elder' zk7 (Kd.R_base ho0) hb)
    have n4_ := Aside0.mk (Kd.R_lower (Kd.R_new' (Kd.R_new' (Kd.R_new' (Kd.R_new' ho0 (Kd.R_lt zk9)) (Kd.R_lt zk11)) (Kd.R_lt zk8)) (Kd.R_lt zk7)) (below_size zk1))
    have n5_ := Aside0.mk (blk_below (g := gb336) (o := .cells #[.int .i64 a0_0, .int .i64 a0_1, .slice A0_2 l0_2.length c0_2] 24 (0, 0)) zk2 hb)
    have n6_ := Aside0.mk (blk_below (g := gb337) (o := .cells #[.int .i64 a1_0, .int .i64 a1_1] 26 (0, 0)) zk4 hb)
    have n7_ := Aside0.mk (blk_below (g := gb358) (o := .cells #[.int .i64 t353, .int .i64 t354, .slice Ao41 t355.length co41] 31 (0, 0)) zk6 hb)
    have n8_ := Aside0.mk (below_step zk1 hb)
    clear HO_8
    clear HO_11
    clear HO_12
    clear HO_359002
    clear BK336
    clear BK337
    clear BK358
    clear HB
    have HO_8 := n0_
    have HO_11 := n1_
    have HO_12 := n2_
    have HO_359002 := n3_
    have HO373 := n4_
    have BK336 := n5_
    have BK337 := n6_
    have BK358 := n7_
    have HB := n8_
    clear n0_ n1_ n2_ n3_ n4_ n5_ n6_ n7_ n8_
    (try clear hb)
    (try clear hb2)
    (try clear hk)
    (try clear hi)
    (try clear ho0)
    (try clear hna_)
    (try clear hnb_)
    obtain ⟨Ao116, co116, eo116⟩ := Kd.R_slice HO373.out
    (first | subst eo116 | (injection eo116 with f1_ f2_ f3_; have f4_ := f1_.symm; have f5_ := f3_.symm; clear f1_ f2_ f3_; subst f4_; subst f5_))
    refine hK.out _ _ ⟨(blk_cell BK358.out 0).trans rfl, (blk_cell BK358.out 1).trans rfl, (blk_cell BK358.out 2).trans rfl, (blk_cell BK336.out 0).trans rfl, (blk_cell BK336.out 1).trans rfl, (blk_cell BK336.out 2).trans rfl⟩ (fun hHeld => ?_)
    clear hK K
    refine norm_ (a' := ?_) ?_ ?_
    rotate_left
    ·show Act.put _ (some 60) _ = _
     simp only [Act.put, List.setIfInBounds_toArray, List.set_cons_zero, List.set_cons_succ, i64_w, i32_w]
     rfl
    refine one_ (i := 3) (N := some 61) #[true, true, true, true, false] rfl rfl (by kernel_rfl) (by decide) (fun K hK => ?_)
    refine goes_ Try.func13 (by kernel_rfl) rfl #[.agg #[.int .i64 t353, .int .i64 t354, .slice Ao41 t355.length co41], .agg #[.int .i64 t369, .int .i64 t370, .slice Ao116 t371.length co116]] (by rfl) rfl rfl zk3 ?_
    with_reducible refine (laws_eqBoard.calls kj21 t353 t354 _ _ t355 t369 t370 _ _ t371 true _ ?side1 ?side2 ?side3 ?side4 A55.out).mono ?_
    (case side1 => exact zk28)
    (case side2 => exact (Kd.R_reads' HO_359002.out).2.1)
    (case side3 => exact zk29)
    (case side4 => exact (Kd.R_reads' HO373.out).2.1)
    rintro e w117 ⟨rfl, hb⟩
    refine ⟨_, rfl, ?_⟩
    have n0_ := Aside0.mk (Kd.R_below zk9 hb)
    have n1_ := Aside0.mk (Kd.R_below zk11 hb)
    have n2_ := Aside0.mk (Kd.R_below zk8 hb)
    have n3_ := Aside0.mk (Kd.R_below zk7 hb)
    have n4_ := Aside0.mk (Kd.R_below zk18 hb)
    have n5_ := Aside0.mk (blk_below (g := gb336) (o := .cells #[.int .i64 a0_0, .int .i64 a0_1, .slice A0_2 l0_2.length c0_2] 24 (0, 0)) zk2 hb)
    have n6_ := Aside0.mk (blk_below (g := gb337) (o := .cells #[.int .i64 a1_0, .int .i64 a1_1] 26 (0, 0)) zk4 hb)
    have n7_ := Aside0.mk (blk_below (g := gb358) (o := .cells #[.int .i64 t353, .int .i64 t354, .slice Ao41 t355.length co41] 31 (0, 0)) zk6 hb)
    have n8_ := Aside0.mk (below_step zk1 hb)
    clear HO_8
    clear HO_11
    clear HO_12
    clear HO_359002
    clear HO373
    clear BK336
    clear BK337
    clear BK358
    clear HB
    have HO_8 := n0_
    have HO_11 := n1_
    have HO_12 := n2_
    have HO_359002 := n3_
    have HO373 := n4_
    have BK336 := n5_
    have BK337 := n6_
    have BK358 := n7_
    have HB := n8_
    clear n0_ n1_ n2_ n3_ n4_ n5_ n6_ n7_ n8_
    (try clear hb)
    (try clear hb2)
    (try clear hk)
    (try clear hi)
    (try clear hna_)
    (try clear hnb_)
    refine hK.out _ _ ⟨(blk_cell BK358.out 0).trans rfl, (blk_cell BK358.out 1).trans rfl, (blk_cell BK358.out 2).trans rfl, (blk_cell BK336.out 0).trans rfl, (blk_cell BK336.out 1).trans rfl, (blk_cell BK336.out 2).trans rfl⟩ (fun hHeld => ?_)
    clear hK K
    refine norm_ (a' := ?_) ?_ ?_
    rotate_left
    ·show Act.put _ (some 61) _ = _
     simp only [Act.put, List.setIfInBounds_toArray, List.set_cons_zero, List.set_cons_succ, i64_w, i32_w]
     rfl
    refine pure_ (i := 4) (N := some 62) (v := ?_) (a' := ?_) #[true, true, true, true, true] rfl rfl (by kernel_rfl) (fun _ _ _ h => h) (Or.inl ⟨by rfl, ?_⟩) ?_ ?_
    rotate_left
    ·intro w'
     go_simp
     with_reducible rfl
    rotate_left
    ·simp only [Act.put, List.setIfInBounds_toArray, List.set_cons_zero, List.set_cons_succ, i64_w, i32_w]
     rfl
    refine done_ (by kernel_rfl) ?_
    try go_wp2_with (first | ((with_reducible refine gate_callee (f := 18) rfl ?_); refine goesL_ (some 65) rfl rfl Try.func18 (by kernel_rfl) rfl #[.slice A2 l2.length c2] rfl zk3 ?_; (with_reducible refine (laws_toIntS.calls kj21 _ _ l2 t375 _ ?side1 ?side2 A57.out).mono ?_); (case side1 => exact zk20); (case side2 => exact HC2.out); rintro e w118 ⟨v376, rfl, ho0, hb⟩; refine ⟨_, rfl, ?_⟩; have n0_ := Aside0.mk (Kd.R_elder' zk9 (Kd.R_base ho0) hb); have n1_ := Aside0.mk (Kd.R_elder' zk11 (Kd.R_base ho0) hb); have n2_ := Aside0.mk (Kd.R_elder' zk8 (Kd.R_base ho0) hb); have n3_ := Aside0.mk (Kd.R_elder' zk7 (Kd.R_base ho0) hb); have n4_ := Aside0.mk (Kd.R_elder' zk18 (Kd.R_base ho0) hb); have n5_ := Aside0.mk (Kd.R_lower (Kd.R_new' (Kd.R_new' (Kd.R_new' (Kd.R_new' (Kd.R_new' ho0 (Kd.R_lt zk9)) (Kd.R_lt zk11)) (Kd.R_lt zk8)) (Kd.R_lt zk7)) (Kd.R_lt zk18)) (below_size zk1)); have n6_ := Aside0.mk (blk_below (g := gb336) (o := .cells #[.int .i64 a0_0, .int .i64 a0_1, .slice A0_2 l0_2.length c0_2] 24 (0, 0)) zk2 hb); have n7_ := Aside0.mk (blk_below (g := gb337) (o := .cells #[.int .i64 a1_0, .int .i64 a1_1] 26 (0, 0)) zk4 hb); have n8_ := Aside0.mk (blk_below (g := gb358) (o := .cells #[.int .i64 t353, .int .i64 t354, .slice Ao41 t355.length co41] 31 (0, 0)) zk6 hb); have n9_ := Aside0.mk (below_step zk1 hb); clear HO_8; clear HO_11; clear HO_12; clear HO_359002; clear HO373; clear BK336; clear BK337; clear BK358; clear HB; have HO_8 := n0_; have HO_11 := n1_; have HO_12 := n2_; have HO_359002 := n3_; have HO373 := n4_; have HO377 := n5_; have BK336 := n6_; have BK337 := n7_; have BK358 := n8_; have HB := n9_; clear n0_ n1_ n2_ n3_ n4_ n5_ n6_ n7_ n8_ n9_; (try clear hb); (try clear hb2); (try clear hk); (try clear hi); (try clear ho0); (try clear hna_); (try clear hnb_); obtain ⟨Ao119, co119, eo119⟩ := Kd.R_slice HO377.out; subst eo119) | ((with_reducible refine gate_callee (f := 20) rfl ?_); refine goesL_ (some 66) rfl rfl Try.func20 (by kernel_rfl) rfl #[.slice Ao45 t359.length co45, .slice Ao119 t375.length co119] rfl zk3 ?_; (with_reducible refine (laws_eqIntS.calls kj21 _ _ t359 _ _ t375 false _ ?side1 ?side2 ?side3 ?side4 A58.out).mono ?_); (case side1 => exact zk43); (case side2 => exact (Kd.R_reads' HO_11.out).2.1); (case side3 => exact zk45); (case side4 => exact (Kd.R_reads' HO377.out).2.1); rintro e w' ⟨rfl, ⟨nd, rfl⟩⟩; refine ⟨_, rfl, ?_⟩))
    go_ret
    exact ⟨zk16, zk1⟩
   subst c59
   have H1 : ((laws_markBoard.f kj21 t353 t354 t355 1).bind fun bt379 => ((laws_markIntS.f kj21 t359 bt379.1).bind fun bt381 => (if bt381.1 < 0 then (laws_FnExactFillPeaceful.j1 kj21 l2 t349 t352 t364 true a0_0 a0_1 l0_2 a1_0 a1_1) else ((laws_eqIntS.f kj21 t364 t349).bind fun t383 => (if t383 = true then (laws_FnExactFillPeaceful.j1 kj21 l2 t349 t352 t364 (t367 != t352) a0_0 a0_1 l0_2 a1_0 a1_1) else (laws_FnExactFillPeaceful.j1 kj21 l2 t349 t352 t364 true a0_0 a0_1 l0_2 a1_0 a1_1)))))) = some r := by rw [if_pos rfl] at H; exact H
   clear H
   have H := H1
   clear H1
   replace H := Option.bind_eq_some_iff.mp H
   obtain ⟨⟨t379, t380⟩, A600, H⟩ := H
   replace H : ((laws_markIntS.f kj21 t359 t379).bind fun bt381 => (if bt381.1 < 0 then (laws_FnExactFillPeaceful.j1 kj21 l2 t349 t352 t364 true a0_0 a0_1 l0_2 a1_0 a1_1) else ((laws_eqIntS.f kj21 t364 t349).bind fun t383 => (if t383 = true then (laws_FnExactFillPeaceful.j1 kj21 l2 t349 t352 t364 (t367 != t352) a0_0 a0_1 l0_2 a1_0 a1_1) else (laws_FnExactFillPeaceful.j1 kj21 l2 t349 t352 t364 true a0_0 a0_1 l0_2 a1_0 a1_1))))) = some r := H
   have A60 := Aside0.mk A600
   clear A600
   replace H := Option.bind_eq_some_iff.mp H
   obtain ⟨⟨t381, t382⟩, A610, H⟩ := H
   replace H : (if t381 < 0 then (laws_FnExactFillPeaceful.j1 kj21 l2 t349 t352 t364 true a0_0 a0_1 l0_2 a1_0 a1_1) else ((laws_eqIntS.f kj21 t364 t349).bind fun t383 => (if t383 = true then (laws_FnExactFillPeaceful.j1 kj21 l2 t349 t352 t364 (t367 != t352) a0_0 a0_1 l0_2 a1_0 a1_1) else (laws_FnExactFillPeaceful.j1 kj21 l2 t349 t352 t364 true a0_0 a0_1 l0_2 a1_0 a1_1)))) = some r := H
   have A61 := Aside0.mk A610
   clear A610
   have HC62 := Aside0.mk H
   clear H
   try go_wp2
   have n0_ := Aside0.mk (Kd.R_drew HO_8.out)
   have n1_ := Aside0.mk (Kd.R_drew HO_11.out)
   have n2_ := Aside0.mk (Kd.R_drew HO_12.out)
   have n3_ := Aside0.mk (Kd.R_drew HO_359002.out)
   have n4_ := Aside0.mk (blk_drew BK336.out)
   have n5_ := Aside0.mk (blk_drew BK337.out)
   have n6_ := Aside0.mk (blk_drew BK358.out)
   have n7_ := Aside0.mk (below_drew1 HB.out)
   clear HO_8
   clear HO_11
   clear HO_12
   clear HO_359002
   clear BK336
   clear BK337
   clear BK358
   clear HB
   have HO_8 := n0_
   have HO_11 := n1_
   have HO_12 := n2_
   have HO_359002 := n3_
   have BK336 := n4_
   have BK337 := n5_
   have BK358 := n6_
   have HB := n7_
   clear n0_ n1_ n2_ n3_ n4_ n5_ n6_ n7_
   refine start_ (n := 5) (S := fun w' => w'.cell? ⟨gb358, 0, none⟩ = some (.int .i64 t353) ∧ w'.cell? ⟨gb358, 1, none⟩ = some (.int .i64 t354) ∧ w'.cell? ⟨gb358, 2, none⟩ = some (.slice Ao41 t355.length co41) ∧ w'.cell? ⟨gb336, 0, none⟩ = some (.int .i64 a0_0) ∧ w'.cell? ⟨gb336, 1, none⟩ = some (.int .i64 a0_1) ∧ w'.cell? ⟨gb336, 2, none⟩ = some (.slice A0_2 l0_2.length c0_2)) (ds := []) #[false, false, false, false, false] (by kernel_rfl) rfl rfl ⟨(blk_cell BK358.out 0).trans rfl, (blk_cell BK358.out 1).trans rfl, (blk_cell BK358.out 2).trans rfl, (blk_cell BK336.out 0).trans rfl, (blk_cell BK336.out 1).trans rfl, (blk_cell BK336.out 2).trans rfl⟩ (fun hHeld => ?_)
   generalize wc.drew = w63 at HO_8 HO_11 HO_12 HO_359002 BK336 BK337 BK358 HB hHeld ⊢
   refine take_ (i := 0) (N := some 58) (v := ?_) (a' := ?_) #[true, false, false, false, false] rfl rfl (by kernel_rfl) (fun _ _ _ h => h) (Or.inl ⟨by rfl, ?_⟩) hHeld ?_ ?_
   rotate_left
   ·rintro w' ⟨s0, s1, s2, s3, s4, s5⟩
    go_simp
    with_reducible rfl
   rotate_left
   ·simp only [Act.put, List.setIfInBounds_toArray, List.set_cons_zero, List.set_cons_succ, i64_w, i32_w]
    rfl
   refine take_ (i := 1) (N := some 59) (v := ?_) (a' := ?_) #[true, true, false, false, false] rfl rfl (by kernel_rfl) (fun _ _ _ h => h) (Or.inl ⟨by rfl, ?_⟩) hHeld ?_ ?_
   rotate_left
   ·rintro w' ⟨s0, s1, s2, s3, s4, s5⟩
    go_simp
    with_reducible rfl
   rotate_left
   ·simp only [Act.put, List.setIfInBounds_toArray, List.set_cons_zero, List.set_cons_succ, i64_w, i32_w]
    rfl
   refine one_ (i := 2) (N := some 60) #[true, true, true, false, false] rfl rfl (by kernel_rfl) (by decide) (fun K hK => ?_)
   refine goes_ Try.func9 (by kernel_rfl) rfl #[.agg #[.int .i64 a0_0, .int .i64 a0_1, .slice A0_2 l0_2.length c0_2]] (by rfl) rfl rfl zk3 ?_
   with_reducible refine (laws_toBoard.calls kj21 a0_0 a0_1 _ _ l0_2 t369 t370 t371 _ ?side1 ?side2 A54.out).mono ?_
   (case side1 => exact zk12)
   (case side2 => exact HC0_2.out)
   rintro e w64 ⟨v372, rfl, ho0, hb⟩
   refine ⟨_, rfl, ?_⟩
   have n0_ := Aside0.mk (Kd.R_elder' zk9 (Kd.R_base ho0) hb)
   have n1_ := Aside0.mk (Kd.R_elder' zk11 (Kd.R_base ho0) hb)
   have n2_ := Aside0.mk (Kd.R_elder' zk8 (Kd.R_base ho0) hb)
   have n3_ := Aside0.mk (Kd.R_elder' zk7 (Kd.R_base ho0) hb)
   have n4_ := Aside0.mk (Kd.R_lower (Kd.R_new' (Kd.R_new' (Kd.R_new' (Kd.R_new' ho0 (Kd.R_lt zk9)) (Kd.R_lt zk11)) (Kd.R_lt zk8)) (Kd.R_lt zk7)) (below_size zk1))
   have n5_ := Aside0.mk (blk_below (g := gb336) (o := .cells #[.int .i64 a0_0, .int .i64 a0_1, .slice A0_2 l0_2.length c0_2] 24 (0, 0)) zk2 hb)
   have n6_ := Aside0.mk (blk_below (g := gb337) (o := .cells #[.int .i64 a1_0, .int .i64 a1_1] 26 (0, 0)) zk4 hb)
   have n7_ := Aside0.mk (blk_below (g := gb358) (o := .cells #[.int .i64 t353, .int .i64 t354, .slice Ao41 t355.length co41] 31 (0, 0)) zk6 hb)
   have n8_ := Aside0.mk (below_step zk1 hb)
   clear HO_8
   clear HO_11
   clear HO_12
   clear HO_359002
   clear BK336
   clear BK337
   clear BK358
   clear HB
   have HO_8 := n0_
   have HO_11 := n1_
   have HO_12 := n2_
   have HO_359002 := n3_
   have HO373 := n4_
   have BK336 := n5_
   have BK337 := n6_
   have BK358 := n7_
   have HB := n8_
   clear n0_ n1_ n2_ n3_ n4_ n5_ n6_ n7_ n8_
   (try clear hb)
   (try clear hb2)
   (try clear hk)
   (try clear hi)
   (try clear ho0)
   (try clear hna_)
   (try clear hnb_)
   obtain ⟨Ao65, co65, eo65⟩ := Kd.R_slice HO373.out
   (first | subst eo65 | (injection eo65 with f1_ f2_ f3_; have f4_ := f1_.symm; have f5_ := f3_.symm; clear f1_ f2_ f3_; subst f4_; subst f5_))
   refine hK.out _ _ ⟨(blk_cell BK358.out 0).trans rfl, (blk_cell BK358.out 1).trans rfl, (blk_cell BK358.out 2).trans rfl, (blk_cell BK336.out 0).trans rfl, (blk_cell BK336.out 1).trans rfl, (blk_cell BK336.out 2).trans rfl⟩ (fun hHeld => ?_)
   clear hK K
   refine norm_ (a' := ?_) ?_ ?_
   rotate_left
   ·show Act.put _ (some 60) _ = _
    simp only [Act.put, List.setIfInBounds_toArray, List.set_cons_zero, List.set_cons_succ, i64_w, i32_w]
    rfl
   refine one_ (i := 3) (N := some 61) #[true, true, true, true, false] rfl rfl (by kernel_rfl) (by decide) (fun K hK => ?_)
   refine goes_ Try.func13 (by kernel_rfl) rfl #[.agg #[.int .i64 t353, .int .i64 t354, .slice Ao41 t355.length co41], .agg #[.int .i64 t369, .int .i64 t370, .slice Ao65 t371.length co65]] (by rfl) rfl rfl zk3 ?_
   with_reducible refine (laws_eqBoard.calls kj21 t353 t354 _ _ t355 t369 t370 _ _ t371 true _ ?side1 ?side2 ?side3 ?side4 A55.out).mono ?_
   (case side1 => exact zk28)
   (case side2 => exact (Kd.R_reads' HO_359002.out).2.1)
   (case side3 => exact zk29)
   (case side4 => exact (Kd.R_reads' HO373.out).2.1)
   rintro e w66 ⟨rfl, hb⟩
   refine ⟨_, rfl, ?_⟩
   have n0_ := Aside0.mk (Kd.R_below zk9 hb)
   have n1_ := Aside0.mk (Kd.R_below zk11 hb)
   have n2_ := Aside0.mk (Kd.R_below zk8 hb)
   have n3_ := Aside0.mk (Kd.R_below zk7 hb)
   have n4_ := Aside0.mk (Kd.R_below zk18 hb)
   have n5_ := Aside0.mk (blk_below (g := gb336) (o := .cells #[.int .i64 a0_0, .int .i64 a0_1, .slice A0_2 l0_2.length c0_2] 24 (0, 0)) zk2 hb)
   have n6_ := Aside0.mk (blk_below (g := gb337) (o := .cells #[.int .i64 a1_0, .int .i64 a1_1] 26 (0, 0)) zk4 hb)
   have n7_ := Aside0.mk (blk_below (g := gb358) (o := .cells #[.int .i64 t353, .int .i64 t354, .slice Ao41 t355.length co41] 31 (0, 0)) zk6 hb)
   have n8_ := Aside0.mk (below_step zk1 hb)
   clear HO_8
   clear HO_11
   clear HO_12
   clear HO_359002
   clear HO373
   clear BK336
   clear BK337
   clear BK358
   clear HB
   have HO_8 := n0_
   have HO_11 := n1_
   have HO_12 := n2_
   have HO_359002 := n3_
   have HO373 := n4_
   have BK336 := n5_
   have BK337 := n6_
   have BK358 := n7_
   have HB := n8_
   clear n0_ n1_ n2_ n3_ n4_ n5_ n6_ n7_ n8_
   (try clear hb)
   (try clear hb2)
   (try clear hk)
   (try clear hi)
   (try clear hna_)
   (try clear hnb_)
   refine hK.out _ _ ⟨(blk_cell BK358.out 0).trans rfl, (blk_cell BK358.out 1).trans rfl, (blk_cell BK358.out 2).trans rfl, (blk_cell BK336.out 0).trans rfl, (blk_cell BK336.out 1).trans rfl, (blk_cell BK336.out 2).trans rfl⟩ (fun hHeld => ?_)
   clear hK K
   refine norm_ (a' := ?_) ?_ ?_
   rotate_left
   ·show Act.put _ (some 61) _ = _
    simp only [Act.put, List.setIfInBounds_toArray, List.set_cons_zero, List.set_cons_succ, i64_w, i32_w]
    rfl
   refine pure_ (i := 4) (N := some 62) (v := ?_) (a' := ?_) #[true, true, true, true, true] rfl rfl (by kernel_rfl) (fun _ _ _ h => h) (Or.inl ⟨by rfl, ?_⟩) ?_ ?_
   rotate_left
   ·intro w'
    go_simp
    with_reducible rfl
   rotate_left
   ·simp only [Act.put, List.setIfInBounds_toArray, List.set_cons_zero, List.set_cons_succ, i64_w, i32_w]
    rfl
   refine done_ (by kernel_rfl) ?_
   go_upto_region 20 with (first | ((with_reducible refine gate_callee (f := 18) rfl ?_); refine goesL_ (some 65) rfl rfl Try.func18 (by kernel_rfl) rfl #[.slice A2 l2.length c2] rfl zk3 ?_; (with_reducible refine (laws_toIntS.calls kj21 _ _ l2 t375 _ ?side1 ?side2 A57.out).mono ?_); (case side1 => exact zk20); (case side2 => exact HC2.out); rintro e w67 ⟨v376, rfl, ho0, hb⟩; refine ⟨_, rfl, ?_⟩; have n0_ := Aside0.mk (Kd.R_elder' zk9 (Kd.R_base ho0) hb); have n1_ := Aside0.mk (Kd.R_elder' zk11 (Kd.R_base ho0) hb); have n2_ := Aside0.mk (Kd.R_elder' zk8 (Kd.R_base ho0) hb); have n3_ := Aside0.mk (Kd.R_elder' zk7 (Kd.R_base ho0) hb); have n4_ := Aside0.mk (Kd.R_elder' zk18 (Kd.R_base ho0) hb); have n5_ := Aside0.mk (Kd.R_lower (Kd.R_new' (Kd.R_new' (Kd.R_new' (Kd.R_new' (Kd.R_new' ho0 (Kd.R_lt zk9)) (Kd.R_lt zk11)) (Kd.R_lt zk8)) (Kd.R_lt zk7)) (Kd.R_lt zk18)) (below_size zk1)); have n6_ := Aside0.mk (blk_below (g := gb336) (o := .cells #[.int .i64 a0_0, .int .i64 a0_1, .slice A0_2 l0_2.length c0_2] 24 (0, 0)) zk2 hb); have n7_ := Aside0.mk (blk_below (g := gb337) (o := .cells #[.int .i64 a1_0, .int .i64 a1_1] 26 (0, 0)) zk4 hb); have n8_ := Aside0.mk (blk_below (g := gb358) (o := .cells #[.int .i64 t353, .int .i64 t354, .slice Ao41 t355.length co41] 31 (0, 0)) zk6 hb); have n9_ := Aside0.mk (below_step zk1 hb); clear HO_8; clear HO_11; clear HO_12; clear HO_359002; clear HO373; clear BK336; clear BK337; clear BK358; clear HB; have HO_8 := n0_; have HO_11 := n1_; have HO_12 := n2_; have HO_359002 := n3_; have HO373 := n4_; have HO377 := n5_; have BK336 := n6_; have BK337 := n7_; have BK358 := n8_; have HB := n9_; clear n0_ n1_ n2_ n3_ n4_ n5_ n6_ n7_ n8_ n9_; (try clear hb); (try clear hb2); (try clear hk); (try clear hi); (try clear ho0); (try clear hna_); (try clear hnb_); obtain ⟨Ao68, co68, eo68⟩ := Kd.R_slice HO377.out; subst eo68) | ((with_reducible refine gate_callee (f := 20) rfl ?_); refine goesL_ (some 66) rfl rfl Try.func20 (by kernel_rfl) rfl #[.slice Ao45 t359.length co45, .slice Ao68 t375.length co68] rfl zk3 ?_; (with_reducible refine (laws_eqIntS.calls kj21 _ _ t359 _ _ t375 true _ ?side1 ?side2 ?side3 ?side4 A58.out).mono ?_); (case side1 => exact zk43); (case side2 => exact (Kd.R_reads' HO_11.out).2.1); (case side3 => exact zk45); (case side4 => exact (Kd.R_reads' HO377.out).2.1); rintro e w' ⟨rfl, ⟨nd, rfl⟩⟩; refine ⟨_, rfl, ?_⟩; have hnb69 := NB358_336.out; have hnc69 := NB336_358.out; have hnb70 := NB358_337.out; have hnc70 := NB337_358.out; have hcz71_0 : w67.cell? ⟨gb358, 0, none⟩ = some (.int .i64 t353) := (blk_cell BK358.out 0).trans rfl; have hcz71_1 : w67.cell? ⟨gb358, 1, none⟩ = some (.int .i64 t354) := (blk_cell BK358.out 1).trans rfl; have hcz71_2 : w67.cell? ⟨gb358, 2, none⟩ = some (.slice Ao41 t355.length co41) := (blk_cell BK358.out 2).trans rfl; have hfz71_0 := blk_frozen BK358.out 0; have hfz71_1 := blk_frozen BK358.out 1; have hfz71_2 := blk_frozen BK358.out 2) | ((with_reducible refine gate_callee (f := 14) rfl ?_); refine goesL_ (some 70) rfl rfl Try.func14 (by kernel_rfl) rfl #[.agg #[.int .i64 t353, .int .i64 t354, .slice Ao41 t355.length co41], .int .i64 1] rfl zk3 ?_; (with_reducible refine (laws_markBoard.calls kj21 t353 t354 (fun k_ => some k_ = (.slice Ao41 t355.length co41 : Value).ownBlock) (.slice Ao41 t355.length co41) t355 1 t379 t380 w _ ?side1 ?side2 A60.out).mono ?_); (case side1 => exact zk1); (case side2 => exact Kd.R_tight rfl HO_359002.out); rintro e w72 ⟨rfl, hy0, hb, hkp⟩; refine ⟨_, rfl, ?_⟩; have n0_ := Aside0.mk (Kd.R_mono (ok' := fun k_ => some k_ ≠ (.slice Ao45 t359.length co45 : Value).ownBlock ∧ some k_ ≠ (v365 : Value).ownBlock ∧ some k_ ≠ (.slice Ao41 t355.length co41 : Value).ownBlock ∧ some k_ ≠ (.slice Ao65 t371.length co65 : Value).ownBlock ∧ some k_ ≠ (.slice Ao68 t375.length co68 : Value).ownBlock) (Kd.R_keptB (HO_8.out) hkp (fun k_ hk_ hs_ => (hk_.1.1.2.2) hs_)) (fun k_ hk_ => ⟨hk_.1.1.1.1, hk_.1.1.1.2.1, hk_.1.1.1.2.2, hk_.1.1.2, hk_.1.2⟩)); have n1_ := Aside0.mk (Kd.R_mono (ok' := fun k_ => some k_ ≠ (v350 : Value).ownBlock ∧ some k_ ≠ (v365 : Value).ownBlock ∧ some k_ ≠ (.slice Ao41 t355.length co41 : Value).ownBlock ∧ some k_ ≠ (.slice Ao65 t371.length co65 : Value).ownBlock ∧ some k_ ≠ (.slice Ao68 t375.length co68 : Value).ownBlock) (Kd.R_keptB (HO_11.out) hkp (fun k_ hk_ hs_ => (hk_.1.1.2.2) hs_)) (fun k_ hk_ => ⟨hk_.1.1.1.1, hk_.1.1.1.2.1, hk_.1.1.1.2.2, hk_.1.1.2, hk_.1.2⟩)); have n2_ := Aside0.mk (Kd.R_mono (ok' := fun k_ => some k_ ≠ (v350 : Value).ownBlock ∧ some k_ ≠ (.slice Ao45 t359.length co45 : Value).ownBlock ∧ some k_ ≠ (.slice Ao41 t355.length co41 : Value).ownBlock ∧ some k_ ≠ (.slice Ao65 t371.length co65 : Value).ownBlock ∧ some k_ ≠ (.slice Ao68 t375.length co68 : Value).ownBlock) (Kd.R_keptB (HO_12.out) hkp (fun k_ hk_ hs_ => (hk_.1.1.2.2) hs_)) (fun k_ hk_ => ⟨hk_.1.1.1.1, hk_.1.1.1.2.1, hk_.1.1.1.2.2, hk_.1.1.2, hk_.1.2⟩)); have n3_ := Aside0.mk (Kd.R_reok rfl hy0 (fun k_ e_ => HO_359002.out.1 k_ e_)); have n4_ := Aside0.mk (blk_kept zk2 hkp (fun hs_ => (fun e_ => (Kd.R_ne HO_359002.out BK336.out (by decide)) e_) hs_)); have n5_ := Aside0.mk (blk_kept zk4 hkp (fun hs_ => (fun e_ => (Kd.R_ne HO_359002.out BK337.out (by decide)) e_) hs_)); have n6_ := Aside0.mk (blk_kept zk6 hkp (fun hs_ => (fun e_ => (Kd.R_ne HO_359002.out BK358.out (by decide)) e_) hs_)); have n7_ := Aside0.mk (Kd.R_mono (ok' := fun k_ => some k_ ≠ (v350 : Value).ownBlock ∧ some k_ ≠ (.slice Ao45 t359.length co45 : Value).ownBlock ∧ some k_ ≠ (v365 : Value).ownBlock ∧ some k_ ≠ (.slice Ao41 t355.length co41 : Value).ownBlock ∧ some k_ ≠ (.slice Ao68 t375.length co68 : Value).ownBlock) (Kd.R_keptB (HO373.out) hkp (fun k_ hk_ hs_ => (hk_.1.2) hs_)) (fun k_ hk_ => ⟨hk_.1.1.1.1.1.2, hk_.1.1.1.1.2, hk_.1.1.1.2, hk_.1.1.2, hk_.1.2⟩)); have n8_ := Aside0.mk (Kd.R_mono (ok' := fun k_ => some k_ ≠ (v350 : Value).ownBlock ∧ some k_ ≠ (.slice Ao45 t359.length co45 : Value).ownBlock ∧ some k_ ≠ (v365 : Value).ownBlock ∧ some k_ ≠ (.slice Ao41 t355.length co41 : Value).ownBlock ∧ some k_ ≠ (.slice Ao65 t371.length co65 : Value).ownBlock) (Kd.R_keptB (HO377.out) hkp (fun k_ hk_ hs_ => (hk_.1.2) hs_)) (fun k_ hk_ => ⟨hk_.1.1.1.1.1.2, hk_.1.1.1.1.2, hk_.1.1.1.2, hk_.1.1.2, hk_.1.2⟩)); have n9_ := Aside0.mk (hb); clear HO_8; clear HO_11; clear HO_12; clear HO_359002; clear BK336; clear BK337; clear BK358; clear HO373; clear HO377; clear HB; have HO_8 := n0_; have HO_11 := n1_; have HO_12 := n2_; have HO_359002 := n3_; have BK336 := n4_; have BK337 := n5_; have BK358 := n6_; have HO373 := n7_; have HO377 := n8_; have HB := n9_; clear n0_ n1_ n2_ n3_ n4_ n5_ n6_ n7_ n8_ n9_; (try clear hb); (try clear hkp); (try clear hy0)) | ((with_reducible refine gate_callee (f := 21) rfl ?_); refine goesL_ (some 73) rfl rfl Try.func21 (by kernel_rfl) rfl #[.slice Ao45 t359.length co45, .int .i64 t379] rfl zk3 ?_; (with_reducible refine (laws_markIntS.calls kj21 (fun k_ => some k_ = (.slice Ao45 t359.length co45 : Value).ownBlock) (.slice Ao45 t359.length co45) t359 t379 t381 t382 w _ ?side1 ?side2 A61.out).mono ?_); (case side1 => exact zk1); (case side2 => exact Kd.R_tight rfl HO_11.out); rintro e w73 ⟨rfl, hy0, hb, hkp⟩; refine ⟨_, rfl, ?_⟩; have n0_ := Aside0.mk (Kd.R_mono (ok' := fun k_ => some k_ ≠ (.slice Ao45 t359.length co45 : Value).ownBlock ∧ some k_ ≠ (v365 : Value).ownBlock ∧ some k_ ≠ (.slice Ao41 t355.length co41 : Value).ownBlock ∧ some k_ ≠ (.slice Ao65 t371.length co65 : Value).ownBlock ∧ some k_ ≠ (.slice Ao68 t375.length co68 : Value).ownBlock) (Kd.R_keptB (HO_8.out) hkp (fun k_ hk_ hs_ => (hk_.1) hs_)) (fun k_ hk_ => ⟨hk_.1.1, hk_.1.2.1, hk_.1.2.2.1, hk_.1.2.2.2.1, hk_.1.2.2.2.2⟩)); have n1_ := Aside0.mk (Kd.R_reok rfl hy0 (fun k_ e_ => HO_11.out.1 k_ e_)); have n2_ := Aside0.mk (Kd.R_mono (ok' := fun k_ => some k_ ≠ (v350 : Value).ownBlock ∧ some k_ ≠ (.slice Ao45 t359.length co45 : Value).ownBlock ∧ some k_ ≠ (.slice Ao41 t355.length co41 : Value).ownBlock ∧ some k_ ≠ (.slice Ao65 t371.length co65 : Value).ownBlock ∧ some k_ ≠ (.slice Ao68 t375.length co68 : Value).ownBlock) (Kd.R_keptB (HO_12.out) hkp (fun k_ hk_ hs_ => (hk_.2.1) hs_)) (fun k_ hk_ => ⟨hk_.1.1, hk_.1.2.1, hk_.1.2.2.1, hk_.1.2.2.2.1, hk_.1.2.2.2.2⟩)); have n3_ := Aside0.mk (Kd.R_mono (ok' := fun k_ => some k_ ≠ (v350 : Value).ownBlock ∧ some k_ ≠ (.slice Ao45 t359.length co45 : Value).ownBlock ∧ some k_ ≠ (v365 : Value).ownBlock ∧ some k_ ≠ (.slice Ao65 t371.length co65 : Value).ownBlock ∧ some k_ ≠ (.slice Ao68 t375.length co68 : Value).ownBlock) (Kd.R_keptB (HO_359002.out) hkp (fun k_ hk_ hs_ => (hk_.1.1.2.1) hs_)) (fun k_ hk_ => ⟨hk_.1.1.1.1, hk_.1.1.1.2.1, hk_.1.1.1.2.2, hk_.1.1.2, hk_.1.2⟩)); have n4_ := Aside0.mk (blk_kept zk2 hkp (fun hs_ => (fun e_ => (Kd.R_ne HO_11.out BK336.out (by decide)) e_) hs_)); have n5_ := Aside0.mk (blk_kept zk4 hkp (fun hs_ => (fun e_ => (Kd.R_ne HO_11.out BK337.out (by decide)) e_) hs_)); have n6_ := Aside0.mk (blk_kept zk6 hkp (fun hs_ => (fun e_ => (Kd.R_ne HO_11.out BK358.out (by decide)) e_) hs_)); have n7_ := Aside0.mk (Kd.R_mono (ok' := fun k_ => some k_ ≠ (v350 : Value).ownBlock ∧ some k_ ≠ (.slice Ao45 t359.length co45 : Value).ownBlock ∧ some k_ ≠ (v365 : Value).ownBlock ∧ some k_ ≠ (.slice Ao41 t355.length co41 : Value).ownBlock ∧ some k_ ≠ (.slice Ao68 t375.length co68 : Value).ownBlock) (Kd.R_keptB (HO373.out) hkp (fun k_ hk_ hs_ => (hk_.2.1) hs_)) (fun k_ hk_ => ⟨hk_.1.1, hk_.1.2.1, hk_.1.2.2.1, hk_.1.2.2.2.1, hk_.1.2.2.2.2⟩)); have n8_ := Aside0.mk (Kd.R_mono (ok' := fun k_ => some k_ ≠ (v350 : Value).ownBlock ∧ some k_ ≠ (.slice Ao45 t359.length co45 : Value).ownBlock ∧ some k_ ≠ (v365 : Value).ownBlock ∧ some k_ ≠ (.slice Ao41 t355.length co41 : Value).ownBlock ∧ some k_ ≠ (.slice Ao65 t371.length co65 : Value).ownBlock) (Kd.R_keptB (HO377.out) hkp (fun k_ hk_ hs_ => (hk_.2.1) hs_)) (fun k_ hk_ => ⟨hk_.1.1, hk_.1.2.1, hk_.1.2.2.1, hk_.1.2.2.2.1, hk_.1.2.2.2.2⟩)); have n9_ := Aside0.mk (hb); clear HO_8; clear HO_11; clear HO_12; clear HO_359002; clear BK336; clear BK337; clear BK358; clear HO373; clear HO377; clear HB; have HO_8 := n0_; have HO_11 := n1_; have HO_12 := n2_; have HO_359002 := n3_; have BK336 := n4_; have BK337 := n5_; have BK358 := n6_; have HO373 := n7_; have HO377 := n8_; have HB := n9_; clear n0_ n1_ n2_ n3_ n4_ n5_ n6_ n7_ n8_ n9_; (try clear hb); (try clear hkp); (try clear hy0)))
   (try simp only [Act.put, List.setIfInBounds_toArray, List.set_cons_zero, List.set_cons_succ])
   go_cut [86] (fun v86 wc => ∃ (kq : Nat) (x86_61 : Bool), v86 = .bool x86_61 ∧ Aside0 (laws_FnExactFillPeaceful.j1 kq l2 t349 t352 t364 x86_61 a0_0 a0_1 l0_2 a1_0 a1_1 = some r) ∧ Aside0 (kq ≤ kj21) ∧ Aside0 (Kd.R (Kd.int .i64) 3 wc w.heap.size (fun k_ => some k_ ≠ (v365 : Value).ownBlock ∧ some k_ ≠ ((.slice Ao41 t355.length co41) : Value).ownBlock) v350 t349) ∧ Aside0 (Kd.R (Kd.int .i64) 3 wc w.heap.size (fun k_ => some k_ ≠ (v350 : Value).ownBlock ∧ some k_ ≠ ((.slice Ao41 t355.length co41) : Value).ownBlock) v365 t364) ∧ Aside0 (Kd.R (Kd.int .i64) 3 wc w.heap.size (fun k_ => some k_ ≠ (v350 : Value).ownBlock ∧ some k_ ≠ (v365 : Value).ownBlock) (.slice Ao41 t355.length co41) t380) ∧ Aside0 (wc.heap[gb336]? = some (.cells #[.int .i64 a0_0, .int .i64 a0_1, (.slice A0_2 l0_2.length c0_2)] 24 (0, 0))) ∧ Aside0 (wc.heap[gb337]? = some (.cells #[.int .i64 a1_0, .int .i64 a1_1] 26 (0, 0))) ∧ Aside0 (wc.heap[gb358]? = some (.cells #[.int .i64 t353, .int .i64 t354, (.slice Ao41 t355.length co41)] 31 (0, 0))) ∧ Aside0 (Below w.heap.size w wc))
   case first =>
    have H := HC62.out
    clear HC62
    by_cases c74 : t381 < 0
    ·rw [if_pos c74] at H
     have c74b0 : decide (t381 < 0) = true := decide_eq_true c74
     clear c74
     (first | rw [c74b0] | (simp only [i64_w, i32_w]; rw [c74b0]) | skip)
     have H' := Aside0.mk H
     clear H
     go_wp2
     go_meet
     case rel => exact ⟨_, (true), zk34, H', ⟨by have := HJ21.out; first | omega | exact Nat.le_refl _⟩, ⟨zk32⟩, ⟨zk33⟩, ⟨zk31⟩, ⟨zk2⟩, ⟨zk4⟩, ⟨zk6⟩, ⟨zk1⟩⟩
    rw [if_neg c74] at H
    have c74b0 : decide (t381 < 0) = false := decide_eq_false c74
    clear c74
    (first | rw [c74b0] | (simp only [i64_w, i32_w]; rw [c74b0]) | skip)
    replace H := Option.bind_eq_some_iff.mp H
    obtain ⟨t383, A750, H⟩ := H
    replace H : (if t383 = true then (laws_FnExactFillPeaceful.j1 kj21 l2 t349 t352 t364 (t367 != t352) a0_0 a0_1 l0_2 a1_0 a1_1) else (laws_FnExactFillPeaceful.j1 kj21 l2 t349 t352 t364 true a0_0 a0_1 l0_2 a1_0 a1_1)) = some r := H
    have A75 := Aside0.mk A750
    clear A750
    by_cases c76 : t383 = true
    ·subst c76
     have H1 : (laws_FnExactFillPeaceful.j1 kj21 l2 t349 t352 t364 (t367 != t352) a0_0 a0_1 l0_2 a1_0 a1_1) = some r := by rw [if_pos rfl] at H; exact H
     clear H
     have H := H1
     clear H1
     have H' := Aside0.mk H
     clear H
     obtain ⟨Ao77, co77, eo77⟩ := Kd.R_slice HO_12.out
     subst eo77
     obtain ⟨Ao78, co78, eo78⟩ := Kd.R_slice HO_8.out
     subst eo78
     go_wp2_with (first | (go_at_call 20; (with_reducible refine (laws_eqIntS.calls kj21 _ _ t364 _ _ t349 true _ ?side1 ?side2 ?side3 ?side4 A75.out).mono ?_); (case side1 => exact zk13); (case side2 => exact (Kd.R_reads' HO_12.out).2.1); (case side3 => exact zk21); (case side4 => exact (Kd.R_reads' HO_8.out).2.1); rintro e w' ⟨rfl, ⟨nd, rfl⟩⟩))
     go_meet
     case rel => exact ⟨_, ((t367 != t352)), zk34, H', ⟨by have := HJ21.out; first | omega | exact Nat.le_refl _⟩, ⟨zk32⟩, ⟨zk33⟩, ⟨zk31⟩, ⟨zk2⟩, ⟨zk4⟩, ⟨zk6⟩, ⟨zk1⟩⟩
    replace c76 := Bool.eq_false_iff.mpr c76
    subst c76
    have H1 : (laws_FnExactFillPeaceful.j1 kj21 l2 t349 t352 t364 true a0_0 a0_1 l0_2 a1_0 a1_1) = some r := by rw [if_neg (show ¬ (false = true) by decide)] at H; exact H
    clear H
    have H := H1
    clear H1
    have H' := Aside0.mk H
    clear H
    obtain ⟨Ao79, co79, eo79⟩ := Kd.R_slice HO_12.out
    subst eo79
    obtain ⟨Ao80, co80, eo80⟩ := Kd.R_slice HO_8.out
    subst eo80
    go_wp2_with (first | (go_at_call 20; (with_reducible refine (laws_eqIntS.calls kj21 _ _ t364 _ _ t349 false _ ?side1 ?side2 ?side3 ?side4 A75.out).mono ?_); (case side1 => exact zk13); (case side2 => exact (Kd.R_reads' HO_12.out).2.1); (case side3 => exact zk21); (case side4 => exact (Kd.R_reads' HO_8.out).2.1); rintro e w' ⟨rfl, ⟨nd, rfl⟩⟩))
    go_meet
    case rel => exact ⟨_, (true), zk34, H', ⟨by have := HJ21.out; first | omega | exact Nat.le_refl _⟩, ⟨zk32⟩, ⟨zk33⟩, ⟨zk31⟩, ⟨zk2⟩, ⟨zk4⟩, ⟨zk6⟩, ⟨zk1⟩⟩
   case rest =>
    clear HC62
    try clear c1; try clear c2; try clear p2; try clear c3; try clear c4; try clear c4b0; try clear c4b1; try clear c5; try clear c6; try clear c7; try clear c8; try clear c8b0; try clear c9; try clear c10; try clear c11; try clear c13; try clear c14; try clear c17; try clear c18; try clear c19; try clear c20; try clear c21; try clear c25; try clear c38; try clear c39; try clear c48; try clear c53; try clear c56; try clear c59; try clear c69; try clear c70; try clear c74; try clear c74b0; try clear c76; try clear hcz12_0; try clear hcz12_1; try clear hcz12_2; try clear hcz26_0; try clear hcz26_1; try clear hcz26_2
    try clear hcz35_0; try clear hcz35_1; try clear hcz35_2; try clear hcz40_0; try clear hcz40_1; try clear hcz40_2; try clear hcz71_0; try clear hcz71_1; try clear hcz71_2; try clear hfz12_0; try clear hfz12_1; try clear hfz12_2; try clear hfz26_0; try clear hfz26_1; try clear hfz26_2; try clear hfz35_0; try clear hfz35_1; try clear hfz35_2; try clear hfz40_0; try clear hfz40_1; try clear hfz40_2; try clear hfz71_0; try clear hfz71_1; try clear hfz71_2; try clear p2
    obtain ⟨kq, x86_61, rfl, HA, HJ61, HO_8, HO_12, HO_359002, BK336, BK337, BK358, HB⟩ := hcut
    have hl359002_61 := (Kd.R_reads' HO_359002.out).1
    rw [hl359002_61] at HO_359002
    (try simp only [hl359002_61])
    (try simp only [hl359002_61] at BK336)
    (try simp only [hl359002_61] at BK337)
    (try simp only [hl359002_61] at BK358)
    (try simp only [hl359002_61] at HO_8)
    (try simp only [hl359002_61] at HO_12)
    cases kq with
    | zero => exact absurd HA.out (by simp [laws_FnExactFillPeaceful.j1])
    | succ kj61 =>
     have H := HA.out
     clear HA
     simp only [laws_FnExactFillPeaceful.j1] at H
     by_cases c81 : x86_61 = true
     ·subst c81
      have H1 : (some false) = some r := by rw [if_pos rfl] at H; exact H
      clear H
      have H := H1
      clear H1
      obtain rfl := Option.some.inj H
      go_wp2
      go_ret
      exact ⟨zk16, zk1⟩
     replace c81 := Bool.eq_false_iff.mpr c81
     subst c81
     have H1 : ((laws_markIntS.f kj61 t364 1).bind fun bt384 => ((laws_heldIntS.f kj61 bt384.2 1).bind fun t386 => (if t386 < 0 then (some false) else (if t386 = bt384.1 then ((laws_toBoard.f kj61 a0_0 a0_1 l0_2).bind fun bt387 => ((laws_toLeaper.f a1_0 a1_1).bind fun bt392 => ((laws_toIntS.f kj61 l2).bind fun t394 => ((impl_FillPeaceful.f kj61 bt387.1 bt387.2.1 bt387.2.2 bt392.1 bt392.2 t394).bind fun bt397 => ((laws_eqIntS.f kj61 bt397.1 t349).bind fun t401 => (if t401 = true then (laws_FnExactFillPeaceful.j2 kj61 bt384.2 bt384.1 (bt397.2 != t352)) else (laws_FnExactFillPeaceful.j2 kj61 bt384.2 bt384.1 true))))))) else (some false))))) = some r := by rw [if_neg (show ¬ (false = true) by decide)] at H; exact H
     clear H
     have H := H1
     clear H1
     replace H := Option.bind_eq_some_iff.mp H
     obtain ⟨⟨t384, t385⟩, A820, H⟩ := H
     replace H : ((laws_heldIntS.f kj61 t385 1).bind fun t386 => (if t386 < 0 then (some false) else (if t386 = t384 then ((laws_toBoard.f kj61 a0_0 a0_1 l0_2).bind fun bt387 => ((laws_toLeaper.f a1_0 a1_1).bind fun bt392 => ((laws_toIntS.f kj61 l2).bind fun t394 => ((impl_FillPeaceful.f kj61 bt387.1 bt387.2.1 bt387.2.2 bt392.1 bt392.2 t394).bind fun bt397 => ((laws_eqIntS.f kj61 bt397.1 t349).bind fun t401 => (if t401 = true then (laws_FnExactFillPeaceful.j2 kj61 t385 t384 (bt397.2 != t352)) else (laws_FnExactFillPeaceful.j2 kj61 t385 t384 true))))))) else (some false)))) = some r := H
     have A82 := Aside0.mk A820
     clear A820
     replace H := Option.bind_eq_some_iff.mp H
     obtain ⟨t386, A830, H⟩ := H
     replace H : (if t386 < 0 then (some false) else (if t386 = t384 then ((laws_toBoard.f kj61 a0_0 a0_1 l0_2).bind fun bt387 => ((laws_toLeaper.f a1_0 a1_1).bind fun bt392 => ((laws_toIntS.f kj61 l2).bind fun t394 => ((impl_FillPeaceful.f kj61 bt387.1 bt387.2.1 bt387.2.2 bt392.1 bt392.2 t394).bind fun bt397 => ((laws_eqIntS.f kj61 bt397.1 t349).bind fun t401 => (if t401 = true then (laws_FnExactFillPeaceful.j2 kj61 t385 t384 (bt397.2 != t352)) else (laws_FnExactFillPeaceful.j2 kj61 t385 t384 true))))))) else (some false))) = some r := H
     have A83 := Aside0.mk A830
     clear A830
     by_cases c84 : t386 < 0
     ·rw [if_pos c84] at H
      have c84b0 : decide (t386 < 0) = true := decide_eq_true c84
      clear c84
      obtain rfl := Option.some.inj H
      obtain ⟨Ao85, co85, eo85⟩ := Kd.R_slice HO_12.out
      subst eo85
      go_wp2_with (first | ((with_reducible refine gate_callee (f := 21) rfl ?_); refine goesL_ (some 89) rfl rfl Try.func21 (by kernel_rfl) rfl #[.slice Ao85 t364.length co85, .int .i64 1] rfl zk3 ?_; (with_reducible refine (laws_markIntS.calls kj61 (fun k_ => some k_ = (.slice Ao85 t364.length co85 : Value).ownBlock) (.slice Ao85 t364.length co85) t364 1 t384 t385 w _ ?side1 ?side2 A82.out).mono ?_); (case side1 => exact zk1); (case side2 => exact Kd.R_tight rfl HO_12.out); rintro e w86 ⟨rfl, hy0, hb, hkp⟩; refine ⟨_, rfl, ?_⟩; have n0_ := Aside0.mk (Kd.R_mono (ok' := fun k_ => some k_ ≠ (.slice Ao85 t364.length co85 : Value).ownBlock ∧ some k_ ≠ (.slice Ao41 t380.length co41 : Value).ownBlock) (Kd.R_keptB (HO_8.out) hkp (fun k_ hk_ hs_ => (hk_.1) hs_)) (fun k_ hk_ => ⟨hk_.1.1, hk_.1.2⟩)); have n1_ := Aside0.mk (Kd.R_reok rfl hy0 (fun k_ e_ => HO_12.out.1 k_ e_)); have n2_ := Aside0.mk (Kd.R_mono (ok' := fun k_ => some k_ ≠ (v350 : Value).ownBlock ∧ some k_ ≠ (.slice Ao85 t364.length co85 : Value).ownBlock) (Kd.R_keptB (HO_359002.out) hkp (fun k_ hk_ hs_ => (hk_.2) hs_)) (fun k_ hk_ => ⟨hk_.1.1, hk_.1.2⟩)); have n3_ := Aside0.mk (blk_kept zk2 hkp (fun hs_ => (fun e_ => (Kd.R_ne HO_12.out BK336.out (by decide)) e_) hs_)); have n4_ := Aside0.mk (blk_kept zk4 hkp (fun hs_ => (fun e_ => (Kd.R_ne HO_12.out BK337.out (by decide)) e_) hs_)); have n5_ := Aside0.mk (blk_kept zk6 hkp (fun hs_ => (fun e_ => (Kd.R_ne HO_12.out BK358.out (by decide)) e_) hs_)); have n6_ := Aside0.mk (hb); clear HO_8; clear HO_12; clear HO_359002; clear BK336; clear BK337; clear BK358; clear HB; have HO_8 := n0_; have HO_12 := n1_; have HO_359002 := n2_; have BK336 := n3_; have BK337 := n4_; have BK358 := n5_; have HB := n6_; clear n0_ n1_ n2_ n3_ n4_ n5_ n6_; (try clear hb); (try clear hkp); (try clear hy0)) | ((with_reducible refine gate_callee (f := 22) rfl ?_); refine goesL_ (some 92) rfl rfl Try.func22 (by kernel_rfl) rfl #[.slice Ao85 t385.length co85, .int .i64 1] rfl zk22 ?_; (with_reducible refine (laws_heldIntS.calls kj61 _ _ t385 1 t386 _ ?side1 ?side2 A83.out).mono ?_); (case side1 => exact zk13); (case side2 => exact zk36); rintro e w' ⟨rfl, ⟨nd, rfl⟩⟩; refine ⟨_, rfl, ?_⟩))
      go_ret
      exact ⟨zk16, zk1⟩
     rw [if_neg c84] at H
     have c84b0 : decide (t386 < 0) = false := decide_eq_false c84
     clear c84
     by_cases c87 : t386 = t384
     rotate_left
     ·rw [if_neg c87] at H
      have c87b0 : (t386 == t384) = false := beq_eq_false_iff_ne.mpr c87
      have c87b1 : (t386 != t384) = true := bne_iff_ne.mpr c87
      obtain rfl := Option.some.inj H
      obtain ⟨Ao112, co112, eo112⟩ := Kd.R_slice HO_12.out
      subst eo112
      go_wp2_with (first | ((with_reducible refine gate_callee (f := 21) rfl ?_); refine goesL_ (some 89) rfl rfl Try.func21 (by kernel_rfl) rfl #[.slice Ao112 t364.length co112, .int .i64 1] rfl zk3 ?_; (with_reducible refine (laws_markIntS.calls kj61 (fun k_ => some k_ = (.slice Ao112 t364.length co112 : Value).ownBlock) (.slice Ao112 t364.length co112) t364 1 t384 t385 w _ ?side1 ?side2 A82.out).mono ?_); (case side1 => exact zk1); (case side2 => exact Kd.R_tight rfl HO_12.out); rintro e w113 ⟨rfl, hy0, hb, hkp⟩; refine ⟨_, rfl, ?_⟩; have n0_ := Aside0.mk (Kd.R_mono (ok' := fun k_ => some k_ ≠ (.slice Ao112 t364.length co112 : Value).ownBlock ∧ some k_ ≠ (.slice Ao41 t380.length co41 : Value).ownBlock) (Kd.R_keptB (HO_8.out) hkp (fun k_ hk_ hs_ => (hk_.1) hs_)) (fun k_ hk_ => ⟨hk_.1.1, hk_.1.2⟩)); have n1_ := Aside0.mk (Kd.R_reok rfl hy0 (fun k_ e_ => HO_12.out.1 k_ e_)); have n2_ := Aside0.mk (Kd.R_mono (ok' := fun k_ => some k_ ≠ (v350 : Value).ownBlock ∧ some k_ ≠ (.slice Ao112 t364.length co112 : Value).ownBlock) (Kd.R_keptB (HO_359002.out) hkp (fun k_ hk_ hs_ => (hk_.2) hs_)) (fun k_ hk_ => ⟨hk_.1.1, hk_.1.2⟩)); have n3_ := Aside0.mk (blk_kept zk2 hkp (fun hs_ => (fun e_ => (Kd.R_ne HO_12.out BK336.out (by decide)) e_) hs_)); have n4_ := Aside0.mk (blk_kept zk4 hkp (fun hs_ => (fun e_ => (Kd.R_ne HO_12.out BK337.out (by decide)) e_) hs_)); have n5_ := Aside0.mk (blk_kept zk6 hkp (fun hs_ => (fun e_ => (Kd.R_ne HO_12.out BK358.out (by decide)) e_) hs_)); have n6_ := Aside0.mk (hb); clear HO_8; clear HO_12; clear HO_359002; clear BK336; clear BK337; clear BK358; clear HB; have HO_8 := n0_; have HO_12 := n1_; have HO_359002 := n2_; have BK336 := n3_; have BK337 := n4_; have BK358 := n5_; have HB := n6_; clear n0_ n1_ n2_ n3_ n4_ n5_ n6_; (try clear hb); (try clear hkp); (try clear hy0)) | ((with_reducible refine gate_callee (f := 22) rfl ?_); refine goesL_ (some 92) rfl rfl Try.func22 (by kernel_rfl) rfl #[.slice Ao112 t385.length co112, .int .i64 1] rfl zk22 ?_; (with_reducible refine (laws_heldIntS.calls kj61 _ _ t385 1 t386 _ ?side1 ?side2 A83.out).mono ?_); (case side1 => exact zk13); (case side2 => exact zk36); rintro e w' ⟨rfl, ⟨nd, rfl⟩⟩; refine ⟨_, rfl, ?_⟩))
      go_ret
      exact ⟨zk16, zk1⟩
     rw [if_pos c87] at H
     have c87b0 : (t386 == t384) = true := beq_iff_eq.mpr c87
     have c87b1 : (t386 != t384) = false := bne_eq_false_iff_eq.mpr c87
     clear c87
     replace H := Option.bind_eq_some_iff.mp H
     obtain ⟨⟨t387, t388, t389⟩, A880, H⟩ := H
     replace H : ((laws_toLeaper.f a1_0 a1_1).bind fun bt392 => ((laws_toIntS.f kj61 l2).bind fun t394 => ((impl_FillPeaceful.f kj61 t387 t388 t389 bt392.1 bt392.2 t394).bind fun bt397 => ((laws_eqIntS.f kj61 bt397.1 t349).bind fun t401 => (if t401 = true then (laws_FnExactFillPeaceful.j2 kj61 t385 t384 (bt397.2 != t352)) else (laws_FnExactFillPeaceful.j2 kj61 t385 t384 true)))))) = some r := H
     have A88 := Aside0.mk A880
     clear A880
     replace H := Option.bind_eq_some_iff.mp H
     obtain ⟨⟨t392, t393⟩, A890, H⟩ := H
     replace H : ((laws_toIntS.f kj61 l2).bind fun t394 => ((impl_FillPeaceful.f kj61 t387 t388 t389 t392 t393 t394).bind fun bt397 => ((laws_eqIntS.f kj61 bt397.1 t349).bind fun t401 => (if t401 = true then (laws_FnExactFillPeaceful.j2 kj61 t385 t384 (bt397.2 != t352)) else (laws_FnExactFillPeaceful.j2 kj61 t385 t384 true))))) = some r := H
     have A89 := Aside0.mk A890
     clear A890
     replace H := Option.bind_eq_some_iff.mp H
     obtain ⟨t394, A900, H⟩ := H
     replace H : ((impl_FillPeaceful.f kj61 t387 t388 t389 t392 t393 t394).bind fun bt397 => ((laws_eqIntS.f kj61 bt397.1 t349).bind fun t401 => (if t401 = true then (laws_FnExactFillPeaceful.j2 kj61 t385 t384 (bt397.2 != t352)) else (laws_FnExactFillPeaceful.j2 kj61 t385 t384 true)))) = some r := H
     have A90 := Aside0.mk A900
     clear A900
     replace H := Option.bind_eq_some_iff.mp H
     obtain ⟨⟨t397, t400⟩, A910, H⟩ := H
     replace H : ((laws_eqIntS.f kj61 t397 t349).bind fun t401 => (if t401 = true then (laws_FnExactFillPeaceful.j2 kj61 t385 t384 (t400 != t352)) else (laws_FnExactFillPeaceful.j2 kj61 t385 t384 true))) = some r := H
     have A91 := Aside0.mk A910
     clear A910
     have HC92 := Aside0.mk H
     clear H
     obtain ⟨Ao93, co93, eo93⟩ := Kd.R_slice HO_12.out
     subst eo93
     try go_wp2_with (first | ((with_reducible refine gate_callee (f := 21) rfl ?_); refine goesL_ (some 89) rfl rfl Try.func21 (by kernel_rfl) rfl #[.slice Ao93 t364.length co93, .int .i64 1] rfl zk3 ?_; (with_reducible refine (laws_markIntS.calls kj61 (fun k_ => some k_ = (.slice Ao93 t364.length co93 : Value).ownBlock) (.slice Ao93 t364.length co93) t364 1 t384 t385 w _ ?side1 ?side2 A82.out).mono ?_); (case side1 => exact zk1); (case side2 => exact Kd.R_tight rfl HO_12.out); rintro e w94 ⟨rfl, hy0, hb, hkp⟩; refine ⟨_, rfl, ?_⟩; have n0_ := Aside0.mk (Kd.R_mono (ok' := fun k_ => some k_ ≠ (.slice Ao93 t364.length co93 : Value).ownBlock ∧ some k_ ≠ (.slice Ao41 t380.length co41 : Value).ownBlock) (Kd.R_keptB (HO_8.out) hkp (fun k_ hk_ hs_ => (hk_.1) hs_)) (fun k_ hk_ => ⟨hk_.1.1, hk_.1.2⟩)); have n1_ := Aside0.mk (Kd.R_reok rfl hy0 (fun k_ e_ => HO_12.out.1 k_ e_)); have n2_ := Aside0.mk (Kd.R_mono (ok' := fun k_ => some k_ ≠ (v350 : Value).ownBlock ∧ some k_ ≠ (.slice Ao93 t364.length co93 : Value).ownBlock) (Kd.R_keptB (HO_359002.out) hkp (fun k_ hk_ hs_ => (hk_.2) hs_)) (fun k_ hk_ => ⟨hk_.1.1, hk_.1.2⟩)); have n3_ := Aside0.mk (blk_kept zk2 hkp (fun hs_ => (fun e_ => (Kd.R_ne HO_12.out BK336.out (by decide)) e_) hs_)); have n4_ := Aside0.mk (blk_kept zk4 hkp (fun hs_ => (fun e_ => (Kd.R_ne HO_12.out BK337.out (by decide)) e_) hs_)); have n5_ := Aside0.mk (blk_kept zk6 hkp (fun hs_ => (fun e_ => (Kd.R_ne HO_12.out BK358.out (by decide)) e_) hs_)); have n6_ := Aside0.mk (hb); clear HO_8; clear HO_12; clear HO_359002; clear BK336; clear BK337; clear BK358; clear HB; have HO_8 := n0_; have HO_12 := n1_; have HO_359002 := n2_; have BK336 := n3_; have BK337 := n4_; have BK358 := n5_; have HB := n6_; clear n0_ n1_ n2_ n3_ n4_ n5_ n6_; (try clear hb); (try clear hkp); (try clear hy0)) | ((with_reducible refine gate_callee (f := 22) rfl ?_); refine goesL_ (some 92) rfl rfl Try.func22 (by kernel_rfl) rfl #[.slice Ao93 t385.length co93, .int .i64 1] rfl zk22 ?_; (with_reducible refine (laws_heldIntS.calls kj61 _ _ t385 1 t386 _ ?side1 ?side2 A83.out).mono ?_); (case side1 => exact zk13); (case side2 => exact zk36); rintro e w' ⟨rfl, ⟨nd, rfl⟩⟩; refine ⟨_, rfl, ?_⟩))
     (try (rw [drewN_self w94]; generalize hq_ : World.drewN w94 _ = w94; have n0_ : Aside0 (Kd.R (Kd.int .i64) 3 w94 w.heap.size (fun k_ => (some k_ ≠ (v350 : Value).ownBlock ∧ some k_ ≠ (.slice Ao41 t380.length co41 : Value).ownBlock)) (.slice Ao93 t364.length co93) t385) := ⟨by rw [← hq_]; exact zk8⟩; have n1_ : Aside0 (Kd.R (Kd.int .i64) 3 w94 w.heap.size (fun k_ => (some k_ ≠ (v350 : Value).ownBlock ∧ some k_ ≠ (.slice Ao93 t364.length co93 : Value).ownBlock)) (.slice Ao41 t380.length co41) t380) := ⟨by rw [← hq_]; exact zk7⟩; have n2_ : Aside0 (Kd.R (Kd.int .i64) 3 w94 w.heap.size (fun k_ => (some k_ ≠ (.slice Ao93 t364.length co93 : Value).ownBlock ∧ some k_ ≠ (.slice Ao41 t380.length co41 : Value).ownBlock)) v350 t349) := ⟨by rw [← hq_]; exact zk9⟩; have n3_ : Aside0 (w94.heap[gb336]? = some (.cells #[.int .i64 a0_0, .int .i64 a0_1, .slice A0_2 l0_2.length c0_2] 24 (0, 0))) := ⟨by rw [← hq_]; exact zk2⟩; have n4_ : Aside0 (w94.heap[gb337]? = some (.cells #[.int .i64 a1_0, .int .i64 a1_1] 26 (0, 0))) := ⟨by rw [← hq_]; exact zk4⟩; have n5_ : Aside0 (w94.heap[gb358]? = some (.cells #[.int .i64 t353, .int .i64 t354, .slice Ao41 t380.length co41] 31 (0, 0))) := ⟨by rw [← hq_]; exact zk6⟩; have n6_ : Aside0 (Below w.heap.size w w94) := ⟨by rw [← hq_]; exact zk1⟩; clear HO_12 HO_359002 HO_8 BK336 BK337 BK358 HB hq_; have HO_12 := n0_; have HO_359002 := n1_; have HO_8 := n2_; have BK336 := n3_; have BK337 := n4_; have BK358 := n5_; have HB := n6_; clear n0_ n1_ n2_ n3_ n4_ n5_ n6_))
     have n0_ := Aside0.mk (Kd.R_drew HO_8.out)
     have n1_ := Aside0.mk (Kd.R_drew HO_12.out)
     have n2_ := Aside0.mk (Kd.R_drew HO_359002.out)
     have n3_ := Aside0.mk (blk_drew BK336.out)
     have n4_ := Aside0.mk (blk_drew BK337.out)
     have n5_ := Aside0.mk (blk_drew BK358.out)
     have n6_ := Aside0.mk (below_drew1 HB.out)
     clear HO_8
     clear HO_12
     clear HO_359002
     clear BK336
     clear BK337
     clear BK358
     clear HB
     have HO_8 := n0_
     have HO_12 := n1_
     have HO_359002 := n2_
     have BK336 := n3_
     have BK337 := n4_
     have BK358 := n5_
     have HB := n6_
     clear n0_ n1_ n2_ n3_ n4_ n5_ n6_
     refine start_ (n := 12) (S := fun w' => w'.cell? ⟨gb336, 0, none⟩ = some (.int .i64 a0_0) ∧ w'.cell? ⟨gb336, 1, none⟩ = some (.int .i64 a0_1) ∧ w'.cell? ⟨gb336, 2, none⟩ = some (.slice A0_2 l0_2.length c0_2) ∧ w'.cell? ⟨gb337, 0, none⟩ = some (.int .i64 a1_0) ∧ w'.cell? ⟨gb337, 1, none⟩ = some (.int .i64 a1_1)) (ds := []) #[false, false, false, false, false, false, false, false, false, false, false, false] (by kernel_rfl) rfl rfl ⟨(blk_cell BK336.out 0).trans rfl, (blk_cell BK336.out 1).trans rfl, (blk_cell BK336.out 2).trans rfl, (blk_cell BK337.out 0).trans rfl, (blk_cell BK337.out 1).trans rfl⟩ (fun hHeld => ?_); refine with_tabW laws_FnExactFillPeaceful.tab30 laws_FnExactFillPeaceful.bits30 (fun HT_ HW_ => ?_)
     generalize w94.drew = w95 at HO_8 HO_12 HO_359002 BK336 BK337 BK358 HB hHeld ⊢
     refine pure_ (i := 4) (N := some 103) (v := ?_) (a' := ?_) #[false, false, false, false, true, false, false, false, false, false, false, false] rfl rfl (any_of HT_.out (by kernel_rfl)) (fun _ _ _ h => h) (Or.inl ⟨by rfl, ?_⟩) ?_ ?_
     rotate_left
     ·intro w'
      go_simp
      with_reducible rfl
     rotate_left
     ·simp only [Act.put, List.setIfInBounds_toArray, List.set_cons_zero, List.set_cons_succ, i64_w, i32_w]
      rfl
     refine take_ (i := 0) (N := some 99) (v := ?_) (a' := ?_) #[true, false, false, false, true, false, false, false, false, false, false, false] rfl rfl (take_ofW HT_.out HW_.out (by kernel_rfl)) (fun _ _ _ h => h) (Or.inl ⟨by rfl, ?_⟩) hHeld ?_ ?_
     rotate_left
     ·rintro w' ⟨s0, s1, s2, s3, s4⟩
      go_simp
      with_reducible rfl
     rotate_left
     ·simp only [Act.put, List.setIfInBounds_toArray, List.set_cons_zero, List.set_cons_succ, i64_w, i32_w]
      rfl
     refine take_ (i := 2) (N := some 101) (v := ?_) (a' := ?_) #[true, false, true, false, true, false, false, false, false, false, false, false] rfl rfl (take_ofW HT_.out HW_.out (by kernel_rfl)) (fun _ _ _ h => h) (Or.inl ⟨by rfl, ?_⟩) hHeld ?_ ?_
     rotate_left
     ·rintro w' ⟨s0, s1, s2, s3, s4⟩
      go_simp
      with_reducible rfl
     rotate_left
     ·simp only [Act.put, List.setIfInBounds_toArray, List.set_cons_zero, List.set_cons_succ, i64_w, i32_w]
      rfl
     refine one_ (i := 1) (N := some 100) #[true, true, true, false, true, false, false, false, false, false, false, false] rfl rfl (one_of HT_.out (by kernel_rfl)) (by decide) (fun K hK => ?_)
     refine goes_ Try.func9 (by kernel_rfl) rfl #[.agg #[.int .i64 a0_0, .int .i64 a0_1, .slice A0_2 l0_2.length c0_2]] (by rfl) rfl rfl zk3 ?_
     with_reducible refine (laws_toBoard.calls kj61 a0_0 a0_1 _ _ l0_2 t387 t388 t389 _ ?side1 ?side2 A88.out).mono ?_
     (case side1 => exact zk12)
     (case side2 => exact HC0_2.out)
     rintro e w96 ⟨v390, rfl, ho0, hb⟩
     refine ⟨_, rfl, ?_⟩
     have n0_ := Aside0.mk (Kd.R_elder' zk9 (Kd.R_base ho0) hb)
     have n1_ := Aside0.mk (Kd.R_elder' zk8 (Kd.R_base ho0) hb)
     have n2_ := Aside0.mk (Kd.R_elder' zk7 (Kd.R_base ho0) hb)
     have n3_ := Aside0.mk (Kd.R_lower (Kd.R_new' (Kd.R_new' (Kd.R_new' ho0 (Kd.R_lt zk9)) (Kd.R_lt zk8)) (Kd.R_lt zk7)) (below_size zk1))
     have n4_ := Aside0.mk (blk_below (g := gb336) (o := .cells #[.int .i64 a0_0, .int .i64 a0_1, .slice A0_2 l0_2.length c0_2] 24 (0, 0)) zk2 hb)
     have n5_ := Aside0.mk (blk_below (g := gb337) (o := .cells #[.int .i64 a1_0, .int .i64 a1_1] 26 (0, 0)) zk4 hb)
     have n6_ := Aside0.mk (blk_below (g := gb358) (o := .cells #[.int .i64 t353, .int .i64 t354, .slice Ao41 t380.length co41] 31 (0, 0)) zk6 hb)
     have n7_ := Aside0.mk (below_step zk1 hb)
     clear HO_8
     clear HO_12
     clear HO_359002
     clear BK336
     clear BK337
     clear BK358
     clear HB
     have HO_8 := n0_
     have HO_12 := n1_
     have HO_359002 := n2_
     have HO391 := n3_
     have BK336 := n4_
     have BK337 := n5_
     have BK358 := n6_
     have HB := n7_
     clear n0_ n1_ n2_ n3_ n4_ n5_ n6_ n7_
     (try clear hb)
     (try clear hb2)
     (try clear hk)
     (try clear hi)
     (try clear ho0)
     (try clear hna_)
     (try clear hnb_)
     refine hK.out _ _ ⟨(blk_cell BK336.out 0).trans rfl, (blk_cell BK336.out 1).trans rfl, (blk_cell BK336.out 2).trans rfl, (blk_cell BK337.out 0).trans rfl, (blk_cell BK337.out 1).trans rfl⟩ (fun hHeld => ?_)
     clear hK K
     refine norm_ (a' := ?_) ?_ ?_
     rotate_left
     ·show Act.put _ (some 100) _ = _
      simp only [Act.put, List.setIfInBounds_toArray, List.set_cons_zero, List.set_cons_succ, i64_w, i32_w]
      rfl
     refine one_ (i := 3) (N := some 102) #[true, true, true, true, true, false, false, false, false, false, false, false] rfl rfl (one_of HT_.out (by kernel_rfl)) (by decide) (fun K hK => ?_)
     refine goes_ Try.func10 (by kernel_rfl) rfl #[.agg #[.int .i64 a1_0, .int .i64 a1_1]] (by rfl) rfl rfl zk3 ?_
     with_reducible refine (laws_toLeaper.calls a1_0 a1_1 t392 t393 _ A89.out).mono ?_
     rintro e w97 ⟨rfl, hb⟩
     refine ⟨_, rfl, ?_⟩
     have n0_ := Aside0.mk (Kd.R_below zk9 hb)
     have n1_ := Aside0.mk (Kd.R_below zk8 hb)
     have n2_ := Aside0.mk (Kd.R_below zk7 hb)
     have n3_ := Aside0.mk (Kd.R_below zk27 hb)
     have n4_ := Aside0.mk (blk_below (g := gb336) (o := .cells #[.int .i64 a0_0, .int .i64 a0_1, .slice A0_2 l0_2.length c0_2] 24 (0, 0)) zk2 hb)
     have n5_ := Aside0.mk (blk_below (g := gb337) (o := .cells #[.int .i64 a1_0, .int .i64 a1_1] 26 (0, 0)) zk4 hb)
     have n6_ := Aside0.mk (blk_below (g := gb358) (o := .cells #[.int .i64 t353, .int .i64 t354, .slice Ao41 t380.length co41] 31 (0, 0)) zk6 hb)
     have n7_ := Aside0.mk (below_step zk1 hb)
     clear HO_8
     clear HO_12
     clear HO_359002
     clear HO391
     clear BK336
     clear BK337
     clear BK358
     clear HB
     have HO_8 := n0_
     have HO_12 := n1_
     have HO_359002 := n2_
     have HO391 := n3_
     have BK336 := n4_
     have BK337 := n5_
     have BK358 := n6_
     have HB := n7_
     clear n0_ n1_ n2_ n3_ n4_ n5_ n6_ n7_
     (try clear hb)
     (try clear hb2)
     (try clear hk)
     (try clear hi)
     (try clear hna_)
     (try clear hnb_)
     refine hK.out _ _ ⟨(blk_cell BK336.out 0).trans rfl, (blk_cell BK336.out 1).trans rfl, (blk_cell BK336.out 2).trans rfl, (blk_cell BK337.out 0).trans rfl, (blk_cell BK337.out 1).trans rfl⟩ (fun hHeld => ?_)
     clear hK K
     refine norm_ (a' := ?_) ?_ ?_
     rotate_left
     ·show Act.put _ (some 102) _ = _
      simp only [Act.put, List.setIfInBounds_toArray, List.set_cons_zero, List.set_cons_succ, i64_w, i32_w]
      rfl
     refine one_ (i := 5) (N := some 104) #[true, true, true, true, true, true, false, false, false, false, false, false] rfl rfl (one_of HT_.out (by kernel_rfl)) (by decide) (fun K hK => ?_)
     refine goes_ Try.func18 (by kernel_rfl) rfl #[.slice A2 l2.length c2] (by rfl) rfl rfl zk3 ?_
     with_reducible refine (laws_toIntS.calls kj61 _ _ l2 t394 _ ?side1 ?side2 A90.out).mono ?_
     (case side1 => exact zk20)
     (case side2 => exact HC2.out)
     rintro e w98 ⟨v395, rfl, ho0, hb⟩
     refine ⟨_, rfl, ?_⟩
     have n0_ := Aside0.mk (Kd.R_elder' zk9 (Kd.R_base ho0) hb)
     have n1_ := Aside0.mk (Kd.R_elder' zk8 (Kd.R_base ho0) hb)
     have n2_ := Aside0.mk (Kd.R_elder' zk7 (Kd.R_base ho0) hb)
     have n3_ := Aside0.mk (Kd.R_elder' zk27 (Kd.R_base ho0) hb)
     have n4_ := Aside0.mk (Kd.R_lower (Kd.R_new' (Kd.R_new' (Kd.R_new' (Kd.R_new' ho0 (Kd.R_lt zk9)) (Kd.R_lt zk8)) (Kd.R_lt zk7)) (Kd.R_lt zk27)) (below_size zk1))
     have n5_ := Aside0.mk (blk_below (g := gb336) (o := .cells #[.int .i64 a0_0, .int .i64 a0_1, .slice A0_2 l0_2.length c0_2] 24 (0, 0)) zk2 hb)
     have n6_ := Aside0.mk (blk_below (g := gb337) (o := .cells #[.int .i64 a1_0, .int .i64 a1_1] 26 (0, 0)) zk4 hb)
     have n7_ := Aside0.mk (blk_below (g := gb358) (o := .cells #[.int .i64 t353, .int .i64 t354, .slice Ao41 t380.length co41] 31 (0, 0)) zk6 hb)
     have n8_ := Aside0.mk (below_step zk1 hb)
     clear HO_8
     clear HO_12
     clear HO_359002
     clear HO391
     clear BK336
     clear BK337
     clear BK358
     clear HB
     have HO_8 := n0_
     have HO_12 := n1_
     have HO_359002 := n2_
     have HO391 := n3_
     have HO396 := n4_
     have BK336 := n5_
     have BK337 := n6_
     have BK358 := n7_
     have HB := n8_
     clear n0_ n1_ n2_ n3_ n4_ n5_ n6_ n7_ n8_
     (try clear hb)
     (try clear hb2)
     (try clear hk)
     (try clear hi)
     (try clear ho0)
     (try clear hna_)
     (try clear hnb_)
     obtain ⟨Ao99, co99, eo99⟩ := Kd.R_slice HO391.out
     (first | subst eo99 | (injection eo99 with f1_ f2_ f3_; have f4_ := f1_.symm; have f5_ := f3_.symm; clear f1_ f2_ f3_; subst f4_; subst f5_))
     obtain ⟨Ao100, co100, eo100⟩ := Kd.R_slice HO396.out
     (first | subst eo100 | (injection eo100 with f1_ f2_ f3_; have f4_ := f1_.symm; have f5_ := f3_.symm; clear f1_ f2_ f3_; subst f4_; subst f5_))
     refine hK.out _ _ ⟨(blk_cell BK336.out 0).trans rfl, (blk_cell BK336.out 1).trans rfl, (blk_cell BK336.out 2).trans rfl, (blk_cell BK337.out 0).trans rfl, (blk_cell BK337.out 1).trans rfl⟩ (fun hHeld => ?_)
     clear hK K
     refine norm_ (a' := ?_) ?_ ?_
     rotate_left
     ·show Act.put _ (some 104) _ = _
      simp only [Act.put, List.setIfInBounds_toArray, List.set_cons_zero, List.set_cons_succ, i64_w, i32_w]
      rfl
     refine one_ (i := 6) (N := some 105) #[true, true, true, true, true, true, true, false, false, false, false, false] rfl rfl (one_of HT_.out (by kernel_rfl)) (by decide) (fun K hK => ?_)
     refine goes_ Try.func19 (by kernel_rfl) rfl #[.agg #[.int .i64 t387, .int .i64 t388, .slice Ao99 t389.length co99], .agg #[.int .i64 t392, .int .i64 t393], .slice Ao100 t394.length co100] (by rfl) rfl rfl zk3 ?_
     with_reducible refine (impl_FillPeaceful.calls kj61 t387 t388 _ _ t389 t392 t393 _ _ t394 t397 t400 _ ?side1 ?side2 ?side3 ?side4 A91.out).mono ?_
     (case side1 => repeat (first | exact (Kd.R_reads' HO391.out).2.2 | (with_reducible refine Kd.C_alloc ?_ _) | (with_reducible refine Kd.C_drewN ?_ _) | (with_reducible refine Kd.C_drew ?_)))
     (case side2 => exact (Kd.R_reads' HO391.out).2.1)
     (case side3 => repeat (first | exact (Kd.R_reads' HO396.out).2.2 | (with_reducible refine Kd.C_alloc ?_ _) | (with_reducible refine Kd.C_drewN ?_ _) | (with_reducible refine Kd.C_drew ?_)))
     (case side4 => exact (Kd.R_reads' HO396.out).2.1)
     rintro e w101 ⟨v398, rfl, ho0, hb⟩
     refine ⟨_, rfl, ?_⟩
     have n0_ := Aside0.mk (Kd.R_elder' zk9 (Kd.R_base ho0) hb)
     have n1_ := Aside0.mk (Kd.R_elder' zk8 (Kd.R_base ho0) hb)
     have n2_ := Aside0.mk (Kd.R_elder' zk7 (Kd.R_base ho0) hb)
     have n3_ := Aside0.mk (Kd.R_elder' zk27 (Kd.R_base ho0) hb)
     have n4_ := Aside0.mk (Kd.R_elder' (by first | exact HO396.out | ((with_reducible repeat (first | apply Kd.R_alloc | apply Kd.R_drewN | apply Kd.R_drew)); exact HO396.out)) (Kd.R_base ho0) hb)
     have n5_ := Aside0.mk (Kd.R_lower (Kd.R_new' (Kd.R_new' (Kd.R_new' (Kd.R_new' (Kd.R_new' ho0 (Kd.R_lt zk9)) (Kd.R_lt zk8)) (Kd.R_lt zk7)) (Kd.R_lt zk27)) (Kd.R_lt (by first | exact HO396.out | ((with_reducible repeat (first | apply Kd.R_alloc | apply Kd.R_drewN | apply Kd.R_drew)); exact HO396.out)))) (below_size zk1))
     have n6_ := Aside0.mk (blk_below (g := gb336) (o := .cells #[.int .i64 a0_0, .int .i64 a0_1, .slice A0_2 l0_2.length c0_2] 24 (0, 0)) zk2 hb)
     have n7_ := Aside0.mk (blk_below (g := gb337) (o := .cells #[.int .i64 a1_0, .int .i64 a1_1] 26 (0, 0)) zk4 hb)
     have n8_ := Aside0.mk (blk_below (g := gb358) (o := .cells #[.int .i64 t353, .int .i64 t354, .slice Ao41 t380.length co41] 31 (0, 0)) zk6 hb)
     have n9_ := Aside0.mk (below_step zk1 hb)
     clear HO_8
     clear HO_12
     clear HO_359002
     clear HO391
     clear HO396
     clear BK336
     clear BK337
     clear BK358
     clear HB
     have HO_8 := n0_
     have HO_12 := n1_
     have HO_359002 := n2_
     have HO391 := n3_
     have HO396 := n4_
     have HO399 := n5_
     have BK336 := n6_
     have BK337 := n7_
     have BK358 := n8_
     have HB := n9_
     clear n0_ n1_ n2_ n3_ n4_ n5_ n6_ n7_ n8_ n9_
     (try clear hb)
     (try clear hb2)
     (try clear hk)
     (try clear hi)
     (try clear ho0)
     (try clear hna_)
     (try clear hnb_)
     refine hK.out _ _ ⟨(blk_cell BK336.out 0).trans rfl, (blk_cell BK336.out 1).trans rfl, (blk_cell BK336.out 2).trans rfl, (blk_cell BK337.out 0).trans rfl, (blk_cell BK337.out 1).trans rfl⟩ (fun hHeld => ?_)
     clear hK K
     refine norm_ (a' := ?_) ?_ ?_
     rotate_left
     ·show Act.put _ (some 105) _ = _
      simp only [Act.put, List.setIfInBounds_toArray, List.set_cons_zero, List.set_cons_succ, i64_w, i32_w]
      rfl
     refine pure_ (i := 7) (N := some 98) (v := ?_) (a' := ?_) #[true, true, true, true, true, true, true, true, false, false, false, false] rfl rfl (any_of HT_.out (by kernel_rfl)) (fun _ _ _ h => h) (Or.inl ⟨by rfl, ?_⟩) ?_ ?_
     rotate_left
     ·intro w'
      go_simp
      with_reducible rfl
     rotate_left
     ·simp only [Act.put, List.setIfInBounds_toArray, List.set_cons_zero, List.set_cons_succ, i64_w, i32_w]
      rfl
     refine pure_ (i := 8) (N := some 106) (v := ?_) (a' := ?_) #[true, true, true, true, true, true, true, true, true, false, false, false] rfl rfl (any_of HT_.out (by kernel_rfl)) (fun _ _ _ h => h) (Or.inl ⟨by rfl, ?_⟩) ?_ ?_
     rotate_left
     ·intro w'
      go_simp
      with_reducible rfl
     rotate_left
     ·simp only [Act.put, List.setIfInBounds_toArray, List.set_cons_zero, List.set_cons_succ, i64_w, i32_w]
      rfl
     refine pure_ (i := 9) (N := some 107) (v := ?_) (a' := ?_) #[true, true, true, true, true, true, true, true, true, true, false, false] rfl rfl (any_of HT_.out (by kernel_rfl)) (fun _ _ _ h => h) (Or.inl ⟨by rfl, ?_⟩) ?_ ?_
     rotate_left
     ·intro w'
      go_simp
      with_reducible rfl
     rotate_left
     ·simp only [Act.put, List.setIfInBounds_toArray, List.set_cons_zero, List.set_cons_succ, i64_w, i32_w]
      rfl
     refine pure_ (i := 10) (N := some 17) (v := ?_) (a' := ?_) #[true, true, true, true, true, true, true, true, true, true, true, false] rfl rfl (any_of HT_.out (by kernel_rfl)) (fun _ _ _ h => h) (Or.inl ⟨by rfl, ?_⟩) ?_ ?_
     rotate_left
     ·intro w'
      go_simp
      with_reducible rfl
     rotate_left
     ·simp only [Act.put, List.setIfInBounds_toArray, List.set_cons_zero, List.set_cons_succ, i64_w, i32_w]
      rfl
     refine pure_ (i := 11) (N := some 18) (v := ?_) (a' := ?_) #[true, true, true, true, true, true, true, true, true, true, true, true] rfl rfl (any_of HT_.out (by kernel_rfl)) (fun _ _ _ h => h) (Or.inl ⟨by rfl, ?_⟩) ?_ ?_
     rotate_left
     ·intro w'
      go_simp
      with_reducible rfl
     rotate_left
     ·simp only [Act.put, List.setIfInBounds_toArray, List.set_cons_zero, List.set_cons_succ, i64_w, i32_w]
      rfl
     refine done_ (done_of HT_.out (by kernel_rfl)) ?_
     go_upto_region 31 with (fail)
     go_cut [116] (fun v116 wc => ∃ (kq : Nat) (x116_91 : Bool), v116 = .bool x116_91 ∧ Aside0 (laws_FnExactFillPeaceful.j2 kq t385 t384 x116_91 = some r) ∧ Aside0 (kq ≤ kj61) ∧ Aside0 (Kd.R (Kd.int .i64) 3 wc w.heap.size (fun k_ => some k_ ≠ ((.slice Ao41 t380.length co41) : Value).ownBlock) (.slice Ao93 t364.length co93) t385) ∧ Aside0 (Kd.R (Kd.int .i64) 3 wc w.heap.size (fun k_ => some k_ ≠ ((.slice Ao93 t364.length co93) : Value).ownBlock) (.slice Ao41 t380.length co41) t380) ∧ Aside0 (wc.heap[gb336]? = some (.cells #[.int .i64 a0_0, .int .i64 a0_1, (.slice A0_2 l0_2.length c0_2)] 24 (0, 0))) ∧ Aside0 (wc.heap[gb337]? = some (.cells #[.int .i64 a1_0, .int .i64 a1_1] 26 (0, 0))) ∧ Aside0 (wc.heap[gb358]? = some (.cells #[.int .i64 t353, .int .i64 t354, (.slice Ao41 t380.length co41)] 31 (0, 0))) ∧ Aside0 (Below w.heap.size w wc))
     case first =>
      have H := HC92.out
      clear HC92
      replace H := Option.bind_eq_some_iff.mp H
      obtain ⟨t401, A1020, H⟩ := H
      replace H : (if t401 = true then (laws_FnExactFillPeaceful.j2 kj61 t385 t384 (t400 != t352)) else (laws_FnExactFillPeaceful.j2 kj61 t385 t384 true)) = some r := H
      have A102 := Aside0.mk A1020
      clear A1020
      by_cases c103 : t401 = true
      ·subst c103
       have H1 : (laws_FnExactFillPeaceful.j2 kj61 t385 t384 (t400 != t352)) = some r := by rw [if_pos rfl] at H; exact H
       clear H
       have H := H1
       clear H1
       have H' := Aside0.mk H
       clear H
       obtain ⟨Ao104, co104, eo104⟩ := Kd.R_slice HO399.out
       subst eo104
       obtain ⟨Ao105, co105, eo105⟩ := Kd.R_slice HO_8.out
       subst eo105
       go_wp2_with (first | ((with_reducible refine gate_callee (f := 20) rfl ?_); refine goesL_ (some 110) rfl rfl Try.func20 (by kernel_rfl) rfl #[.slice Ao104 t397.length co104, .slice Ao105 t349.length co105] rfl zk3 ?_; (with_reducible refine (laws_eqIntS.calls kj61 _ _ t397 _ _ t349 true _ ?side1 ?side2 ?side3 ?side4 A102.out).mono ?_); (case side1 => exact zk44); (case side2 => exact (Kd.R_reads' HO399.out).2.1); (case side3 => exact zk21); (case side4 => exact (Kd.R_reads' HO_8.out).2.1); rintro e w' ⟨rfl, ⟨nd, rfl⟩⟩; refine ⟨_, rfl, ?_⟩))
       go_meet
       case rel => exact ⟨_, ((t400 != t352)), zk34, H', ⟨by have := HJ21.out; have := HJ61.out; first | omega | exact Nat.le_refl _⟩, ⟨zk38⟩, ⟨zk37⟩, ⟨zk50⟩, ⟨zk49⟩, ⟨zk48⟩, ⟨zk1⟩⟩
      replace c103 := Bool.eq_false_iff.mpr c103
      subst c103
      have H1 : (laws_FnExactFillPeaceful.j2 kj61 t385 t384 true) = some r := by rw [if_neg (show ¬ (false = true) by decide)] at H; exact H
      clear H
      have H := H1
      clear H1
      have H' := Aside0.mk H
      clear H
      obtain ⟨Ao106, co106, eo106⟩ := Kd.R_slice HO399.out
      subst eo106
      obtain ⟨Ao107, co107, eo107⟩ := Kd.R_slice HO_8.out
      subst eo107
      go_wp2_with (first | ((with_reducible refine gate_callee (f := 20) rfl ?_); refine goesL_ (some 110) rfl rfl Try.func20 (by kernel_rfl) rfl #[.slice Ao106 t397.length co106, .slice Ao107 t349.length co107] rfl zk3 ?_; (with_reducible refine (laws_eqIntS.calls kj61 _ _ t397 _ _ t349 false _ ?side1 ?side2 ?side3 ?side4 A102.out).mono ?_); (case side1 => exact zk44); (case side2 => exact (Kd.R_reads' HO399.out).2.1); (case side3 => exact zk21); (case side4 => exact (Kd.R_reads' HO_8.out).2.1); rintro e w' ⟨rfl, ⟨nd, rfl⟩⟩; refine ⟨_, rfl, ?_⟩))
      go_meet
      case rel => exact ⟨_, (true), zk34, H', ⟨by have := HJ21.out; have := HJ61.out; first | omega | exact Nat.le_refl _⟩, ⟨zk38⟩, ⟨zk37⟩, ⟨zk50⟩, ⟨zk49⟩, ⟨zk48⟩, ⟨zk1⟩⟩
     case rest =>
      clear HC92
      try clear c1; try clear c2; try clear p2; try clear c3; try clear c4; try clear c4b0; try clear c4b1; try clear c5; try clear c6; try clear c7; try clear c8; try clear c8b0; try clear c9; try clear c10; try clear c11; try clear c13; try clear c14; try clear c17; try clear c18; try clear c19; try clear c20; try clear c21; try clear c22; try clear c25; try clear c38; try clear c39; try clear c48; try clear c53; try clear c56; try clear c59; try clear c69; try clear c70; try clear c74; try clear c74b0; try clear c76; try clear c81; try clear c84; try clear c84b0; try clear c87; try clear c87b0; try clear c87b1
      try clear c103; try clear hcz12_0; try clear hcz12_1; try clear hcz12_2; try clear hcz26_0; try clear hcz26_1; try clear hcz26_2; try clear hcz35_0; try clear hcz35_1; try clear hcz35_2; try clear hcz40_0; try clear hcz40_1; try clear hcz40_2; try clear hcz71_0; try clear hcz71_1; try clear hcz71_2; try clear hfz12_0; try clear hfz12_1; try clear hfz12_2; try clear hfz26_0; try clear hfz26_1; try clear hfz26_2; try clear hfz35_0; try clear hfz35_1; try clear hfz35_2; try clear hfz40_0; try clear hfz40_1; try clear hfz40_2; try clear hfz71_0; try clear hfz71_1; try clear hfz71_2; try clear p2
      obtain ⟨kq, x116_91, rfl, HA, HJ91, HO_12, HO_359002, BK336, BK337, BK358, HB⟩ := hcut
      have hl12_91 := (Kd.R_reads' HO_12.out).1
      rw [hl12_91] at HO_12
      (try simp only [hl12_91])
      (try simp only [hl12_91] at BK336)
      (try simp only [hl12_91] at BK337)
      (try simp only [hl12_91] at BK358)
      (try simp only [hl12_91] at HO_359002)
      cases kq with
      | zero => exact absurd HA.out (by simp [laws_FnExactFillPeaceful.j2])
      | succ kj91 =>
       have H := HA.out
       clear HA
       simp only [laws_FnExactFillPeaceful.j2] at H
       by_cases c108 : x116_91 = true
       ·subst c108
        have H1 : (some false) = some r := by rw [if_pos rfl] at H; exact H
        clear H
        have H := H1
        clear H1
        obtain rfl := Option.some.inj H
        go_wp2
        go_ret
        exact ⟨zk16, zk1⟩
       replace c108 := Bool.eq_false_iff.mpr c108
       subst c108
       have H1 : ((laws_heldIntS.f kj91 t385 1).bind fun t402 => (if t402 < 0 then (some false) else (if t402 = t384 then (some true) else (some false)))) = some r := by rw [if_neg (show ¬ (false = true) by decide)] at H; exact H
       clear H
       have H := H1
       clear H1
       replace H := Option.bind_eq_some_iff.mp H
       obtain ⟨t402, A1090, H⟩ := H
       replace H : (if t402 < 0 then (some false) else (if t402 = t384 then (some true) else (some false))) = some r := H
       have A109 := Aside0.mk A1090
       clear A1090
       by_cases c110 : t402 < 0
       ·rw [if_pos c110] at H
        have c110b0 : decide (t402 < 0) = true := decide_eq_true c110
        clear c110
        obtain rfl := Option.some.inj H
        go_wp2_with (first | ((with_reducible refine gate_callee (f := 22) rfl ?_); refine goesL_ (some 119) rfl rfl Try.func22 (by kernel_rfl) rfl #[.slice Ao93 t385.length co93, .int .i64 1] rfl zk3 ?_; (with_reducible refine (laws_heldIntS.calls kj91 _ _ t385 1 t402 _ ?side1 ?side2 A109.out).mono ?_); (case side1 => exact zk13); (case side2 => exact (Kd.R_reads' HO_12.out).2.1); rintro e w' ⟨rfl, ⟨nd, rfl⟩⟩; refine ⟨_, rfl, ?_⟩))
        go_ret
        exact ⟨zk16, zk1⟩
       rw [if_neg c110] at H
       have c110b0 : decide (t402 < 0) = false := decide_eq_false c110
       clear c110
       by_cases c111 : t402 = t384
       rotate_left
       ·rw [if_neg c111] at H
        have c111b0 : (t402 == t384) = false := beq_eq_false_iff_ne.mpr c111
        have c111b1 : (t402 != t384) = true := bne_iff_ne.mpr c111
        obtain rfl := Option.some.inj H
        go_wp2_with (first | ((with_reducible refine gate_callee (f := 22) rfl ?_); refine goesL_ (some 119) rfl rfl Try.func22 (by kernel_rfl) rfl #[.slice Ao93 t385.length co93, .int .i64 1] rfl zk3 ?_; (with_reducible refine (laws_heldIntS.calls kj91 _ _ t385 1 t402 _ ?side1 ?side2 A109.out).mono ?_); (case side1 => exact zk13); (case side2 => exact (Kd.R_reads' HO_12.out).2.1); rintro e w' ⟨rfl, ⟨nd, rfl⟩⟩; refine ⟨_, rfl, ?_⟩))
        go_ret
        exact ⟨zk16, zk1⟩
       rw [if_pos c111] at H
       have c111b0 : (t402 == t384) = true := beq_iff_eq.mpr c111
       have c111b1 : (t402 != t384) = false := bne_eq_false_iff_eq.mpr c111
       clear c111
       obtain rfl := Option.some.inj H
       go_wp2_with (first | ((with_reducible refine gate_callee (f := 22) rfl ?_); refine goesL_ (some 119) rfl rfl Try.func22 (by kernel_rfl) rfl #[.slice Ao93 t385.length co93, .int .i64 1] rfl zk3 ?_; (with_reducible refine (laws_heldIntS.calls kj91 _ _ t385 1 t402 _ ?side1 ?side2 A109.out).mono ?_); (case side1 => exact zk13); (case side2 => exact (Kd.R_reads' HO_12.out).2.1); rintro e w' ⟨rfl, ⟨nd, rfl⟩⟩; refine ⟨_, rfl, ?_⟩))
       go_ret
       exact ⟨zk16, zk1⟩

end Go.Proofs.Ytemaokhlolimhaa.Q

/- Written by a program of this session: functions of the translation as plain Lean functions, each with a proof that the call does what the plain function says; the conditions stand in each theorem. -/
import Derived.Test.YtemaokhlolimhaaQ0
import Derived.Test.YtemaokhlolimhaaQ1
import Derived.Test.YtemaokhlolimhaaQ2
import Derived.Test.YtemaokhlolimhaaQ3
import Derived.Test.YtemaokhlolimhaaQ6
import Derived.Test.YtemaokhlolimhaaQ7
import Derived.Test.YtemaokhlolimhaaHForced
import Derived.Test.YtemaokhlolimhaaHMark
namespace Go.Proofs.Ytemaokhlolimhaa.Q
open Go.RowKit Go.Proofs.YtemaokhlolimhaaW.PrintWords Go.Proofs.YtemaokhlolimhaaW.PrintLast Go.Proofs.YtemaokhlolimhaaW.PrintMore
attribute [local go_sem] max2_int min2_int max_two min_two max_three min_three max_four min_four   -- for this text's walks alone
set_option linter.unusedVariables false
set_option linter.unusedSimpArgs false

theorem zi1 {p : Prop} (h : p := by repeat (first | (with_reducible first | exact HB.out | apply below_alloc | apply pw_below_drewN | apply below_drew1 | refine below_set ?_ GE261.out | refine below_set ?_ GE262.out | refine below_set ?_ GE280.out) | exact HB.out)) : p := h
theorem zi2 {p : Prop} (h : p := by first | exact BK261.out | ((with_reducible repeat (first | refine blk_drewN ?_ _ | refine blk_drew ?_ | refine blk_alloc ?_ _)); exact BK261.out)) : p := h
theorem zi3 {p : Prop} (h : p := by first | exact BK262.out | ((with_reducible repeat (first | refine blk_drewN ?_ _ | refine blk_drew ?_ | refine blk_alloc ?_ _)); exact BK262.out)) : p := h
theorem zi4 {p : Prop} (h : p := by (try simp only [List.map_toArray, List.map_cons, List.map_nil]); first | done | rfl | (simp only [List.length_drop, List.length_take]; rfl)) : p := h
theorem zi5 {p : Prop} (h : p := by first | exact Nat.le_trans HNB315.out hkp.1 | exact Nat.le_trans HNB315.out hb.size | exact Nat.le_trans HNB315.out hg.size | exact Nat.le_trans HNB315.out (Nat.le_trans (by simp) hb.size) | exact Nat.le_trans HNB315.out (Nat.le_trans (by simp) hg.size) | (rw [hw]; simpa using HNB315.out) | exact HNB315.out) : p := h
theorem zi6 {p : Prop} (h : p := by first | exact BK280.out | ((with_reducible repeat (first | refine blk_drewN ?_ _ | refine blk_drew ?_ | refine blk_alloc ?_ _)); exact BK280.out)) : p := h
theorem zi7 {p : Prop} (h : p := by repeat (first | (with_reducible first | exact HB.out | apply below_alloc | apply pw_below_drewN | apply below_drew1 | refine below_set ?_ GE261.out | refine below_set ?_ GE262.out) | exact HB.out)) : p := h
theorem zi8 {p : Prop} (h : p := by first | exact HO_281002.out | ((with_reducible repeat (first | apply Kd.R_alloc | apply Kd.R_drewN | apply Kd.R_drew)); exact HO_281002.out)) : p := h
theorem zi9 {p : Prop} (h : p := by repeat (first | exact (Kd.S_reads' HO_9.out).2.2 | (with_reducible refine Kd.C_alloc ?_ _) | (with_reducible refine Kd.C_drewN ?_ _) | (with_reducible refine Kd.C_drew ?_))) : p := h
theorem zi10 {p : Prop} (h : p := by first | exact HO_9.out | ((with_reducible repeat (first | apply Kd.S_alloc | apply Kd.S_drewN | apply Kd.S_drew)); exact HO_9.out)) : p := h
theorem zi11 {p : Prop} (h : p := by repeat (first | exact (Kd.C_below HR0_2.out HB.out) | (with_reducible refine Kd.C_alloc ?_ _) | (with_reducible refine Kd.C_drewN ?_ _) | (with_reducible refine Kd.C_drew ?_))) : p := h
theorem zi12 {p : Prop} (h : p := by first | rfl | (simp [errW_none, errW_some] <;> rfl) | (simp [*, errW_none, errW_some] <;> rfl)) : p := h
theorem zi13 {p : Prop} (h : p := by first | exact HO268.out | ((with_reducible repeat (first | apply Kd.R_alloc | apply Kd.R_drewN | apply Kd.R_drew)); exact HO268.out)) : p := h
theorem zi14 {p : Prop} (h : p := by repeat (first | (with_reducible first | exact HB.out | apply below_alloc | apply pw_below_drewN | apply below_drew1 | refine below_set ?_ GE261.out) | exact HB.out)) : p := h
theorem zi15 {p : Prop} (h : p := by first | exact HO_6.out | ((with_reducible repeat (first | apply Kd.S_alloc | apply Kd.S_drewN | apply Kd.S_drew)); exact HO_6.out)) : p := h
theorem zi16 {p : Prop} (h : p := by repeat (first | (with_reducible first | exact HB.out | apply below_alloc | apply pw_below_drewN | apply below_drew1) | exact HB.out)) : p := h
theorem zi17 {p : Prop} (h : p := by first | exact HNB315.out | exact Nat.le_trans HNB315.out (by simp)) : p := h
theorem zi18 {p : Prop} (h : p := by repeat (first | exact (Kd.S_reads' HO_6.out).2.2 | (with_reducible refine Kd.C_alloc ?_ _) | (with_reducible refine Kd.C_drewN ?_ _) | (with_reducible refine Kd.C_drew ?_))) : p := h
theorem zi19 {p : Prop} (h : p := by (try simp only [List.map_toArray, List.map_cons, List.map_nil]); first | done | (rw [show t298.length = t283.length from (Kd.S_reads' HO_9.out).1.symm] <;> rfl) | rfl | (simp only [List.length_drop, List.length_take]; rfl)) : p := h
theorem zi20 {p : Prop} (h : p := by first | exact HO273.out | ((with_reducible repeat (first | apply Kd.S_alloc | apply Kd.S_drewN | apply Kd.S_drew)); exact HO273.out)) : p := h
theorem zi21 {p : Prop} (h : p := by (with_reducible repeat (first | apply Kd.S_alloc | apply Kd.S_drewN | apply Kd.S_drew)); exact Kd.S_mono HO_9.out (fun _ hk => ⟨hk.1, ⟨hk.2.1, hk.2.2.2⟩⟩)) : p := h
theorem zi22 {p : Prop} (h : p := by (with_reducible repeat (first | apply Kd.S_alloc | apply Kd.S_drewN | apply Kd.S_drew)); exact Kd.S_mono HO_6.out (fun _ hk => ⟨hk.1, ⟨hk.2.1, hk.2.2.2⟩⟩)) : p := h
theorem zi23 {p : Prop} (h : p := by first | exact HO279.out | ((with_reducible repeat (first | apply Kd.R_alloc | apply Kd.R_drewN | apply Kd.R_drew)); exact HO279.out)) : p := h
theorem zi24 {p : Prop} (h : p := by (with_reducible repeat (first | apply Kd.R_alloc | apply Kd.R_drewN | apply Kd.R_drew)); exact Kd.R_mono HO_281002.out (fun _ hk => trivial)) : p := h
theorem zi25 {p : Prop} (h : p := by first | rfl | (simp; done) | (simp [*]; done)) : p := h
theorem zi26 {p : Prop} (h : p := by first | exact HO304.out | ((with_reducible repeat (first | apply Kd.R_alloc | apply Kd.R_drewN | apply Kd.R_drew)); exact HO304.out)) : p := h
theorem zi27 {p : Prop} (h : p := by rw [show t298.length = t283.length from (Kd.S_reads' HO_9.out).1.symm]; exact (Kd.S_reads' HO_9.out).2.1) : p := h
theorem zi28 {p : Prop} (h : p := by (try simp only [hl281002_48]); (with_reducible repeat (first | apply Kd.S_alloc | apply Kd.S_drewN | apply Kd.S_drew)); exact Kd.S_mono HO_9.out (fun _ hk => ⟨hk.1.1.2.1, hk.1.1.2.2⟩)) : p := h
theorem zi29 {p : Prop} (h : p := by (try simp only [hl281002_48]); (with_reducible repeat (first | apply Kd.R_alloc | apply Kd.R_drewN | apply Kd.R_drew)); exact Kd.R_mono HO_281002.out (fun _ hk => trivial)) : p := h
theorem zi30 {p : Prop} (h : p := by repeat (first | exact (Kd.R_reads' HO_281002.out).2.2 | (with_reducible refine Kd.C_alloc ?_ _) | (with_reducible refine Kd.C_drewN ?_ _) | (with_reducible refine Kd.C_drew ?_))) : p := h
theorem zi31 {p : Prop} (h : p := by (with_reducible repeat (first | apply Kd.S_alloc | apply Kd.S_drewN | apply Kd.S_drew)); exact Kd.S_mono HO285.out (fun _ hk => ⟨hk.1.2, ⟨hk.2, hk.1.1.1.2⟩⟩)) : p := h
theorem zi32 {p : Prop} (h : p := by (with_reducible repeat (first | apply Kd.S_alloc | apply Kd.S_drewN | apply Kd.S_drew)); exact Kd.S_mono HO273.out (fun _ hk => ⟨hk.2, ⟨hk.1.1.2, hk.1.2⟩⟩)) : p := h
theorem zi33 {p : Prop} (h : p := by repeat (first | exact (Kd.S_reads' HO309.out).2.2 | (with_reducible refine Kd.C_alloc ?_ _) | (with_reducible refine Kd.C_drewN ?_ _) | (with_reducible refine Kd.C_drew ?_))) : p := h
theorem zi34 {p : Prop} (h : p := by repeat (first | exact (Kd.S_reads' HO285.out).2.2 | (with_reducible refine Kd.C_alloc ?_ _) | (with_reducible refine Kd.C_drewN ?_ _) | (with_reducible refine Kd.C_drew ?_))) : p := h
theorem zi35 {p : Prop} (h : p := by repeat (first | exact (Kd.S_reads' HO273.out).2.2 | (with_reducible refine Kd.C_alloc ?_ _) | (with_reducible refine Kd.C_drewN ?_ _) | (with_reducible refine Kd.C_drew ?_))) : p := h
theorem zi36 {p : Prop} (h : p := by repeat (first | exact (Kd.R_reads' HO292.out).2.2 | (with_reducible refine Kd.C_alloc ?_ _) | (with_reducible refine Kd.C_drewN ?_ _) | (with_reducible refine Kd.C_drew ?_))) : p := h
theorem zi37 {p : Prop} (h : p := by (try simp only [hl281002_48]); first | exact BK280.out | ((with_reducible repeat (first | refine blk_drewN ?_ _ | refine blk_drew ?_ | refine blk_alloc ?_ _)); exact BK280.out)) : p := h
theorem zi38 {p : Prop} (h : p := by (try simp only [hl281002_48]); first | exact BK262.out | ((with_reducible repeat (first | refine blk_drewN ?_ _ | refine blk_drew ?_ | refine blk_alloc ?_ _)); exact BK262.out)) : p := h
theorem zi39 {p : Prop} (h : p := by (try simp only [hl281002_48]); first | exact BK261.out | ((with_reducible repeat (first | refine blk_drewN ?_ _ | refine blk_drew ?_ | refine blk_alloc ?_ _)); exact BK261.out)) : p := h
theorem zi40 {p : Prop} (h : p := by (with_reducible repeat (first | apply Kd.R_alloc | apply Kd.R_drewN | apply Kd.R_drew)); exact Kd.R_mono HO279.out (fun _ hk => trivial)) : p := h
theorem zi41 {p : Prop} (h : p := by rw [hg]; exact Nat.ne_of_lt (blk_lt (g := gb261) (o := .cells #[.int .i64 a0_0, .int .i64 a0_1, .slice A0_2 l0_2.length c0_2] 24 (0, 0)) zi2)) : p := h
theorem zi42 {p : Prop} (h : p := by rw [hg]; exact Nat.ne_of_gt (blk_lt (g := gb261) (o := .cells #[.int .i64 a0_0, .int .i64 a0_1, .slice A0_2 l0_2.length c0_2] 24 (0, 0)) zi2)) : p := h
/-! ### laws_FnExactForcedLeaps: function 3 -/
mutual
def laws_FnExactForcedLeaps.j0 : Nat → List (List Int) → Bool → List (List Int) → Bool → Bool → Int → Int → List Int → Int → Int → Int → Int → List Int → Option (Bool)
 | 0, _, _, _, _, _, _, _, _, _, _, _, _, _ => none
 | k + 1, x6, x7, x9, x10, x46, x262000, x262001, x262002, x263000, x263001, x281000, x281001, x281002 => if x46 = true then (some false) else ((laws_toBoard.f k x262000 x262001 x262002).bind fun bt288 => ((laws_eqBoard.f k x281000 x281001 x281002 bt288.1 bt288.2.1 bt288.2.2).bind fun t293 => (if t293 = true then ((laws_markBoard.f k x281000 x281001 x281002 1).bind fun bt294 => (if bt294.1 < 0 then (laws_FnExactForcedLeaps.j1 k x6 x7 x9 true x262000 x262001 x262002 x263000 x263001) else ((laws_eqIntSS.f k x9 x6).bind fun t296 => (if t296 = true then (laws_FnExactForcedLeaps.j1 k x6 x7 x9 (x10 != x7) x262000 x262001 x262002 x263000 x263001) else (laws_FnExactForcedLeaps.j1 k x6 x7 x9 true x262000 x262001 x262002 x263000 x263001))))) else (some false))))
def laws_FnExactForcedLeaps.j1 : Nat → List (List Int) → Bool → List (List Int) → Bool → Int → Int → List Int → Int → Int → Option (Bool)
 | 0, _, _, _, _, _, _, _, _, _ => none
 | k + 1, x6, x7, x9, x67, x262000, x262001, x262002, x263000, x263001 => if x67 = true then (some false) else ((laws_markIntSS.f x9 1).bind fun bt297 => ((laws_heldIntSS.f k bt297.2 1).bind fun t299 => (if t299 < 0 then (some false) else (if t299 = bt297.1 then ((laws_toBoard.f k x262000 x262001 x262002).bind fun bt300 => ((laws_toLeaper.f x263000 x263001).bind fun bt305 => ((impl_ForcedLeaps.f k bt300.1 bt300.2.1 bt300.2.2 bt305.1 bt305.2).bind fun bt307 => ((laws_eqIntSS.f k bt307.1 x6).bind fun t311 => (if t311 = true then (laws_FnExactForcedLeaps.j2 k bt297.2 bt297.1 (bt307.2 != x7)) else (laws_FnExactForcedLeaps.j2 k bt297.2 bt297.1 true)))))) else (some false)))))
def laws_FnExactForcedLeaps.j2 : Nat → List (List Int) → Int → Bool → Option (Bool)
 | 0, _, _, _ => none
 | k + 1, x9, x12, x95 => if x95 = true then (some false) else ((laws_heldIntSS.f k x9 1).bind fun t312 => (if t312 < 0 then (some false) else (if t312 = x12 then (some true) else (some false))))
end
def laws_FnExactForcedLeaps.f (k : Nat) (a0_0 : Int) (a0_1 : Int) (l0_2 : List Int) (a1_0 : Int) (a1_1 : Int) : Option (Bool) := (laws_szBoard.f a0_0 a0_1 l0_2 1048576).bind fun t263 => (if t263 < 0 then (some true) else ((laws_toBoard.f k a0_0 a0_1 l0_2).bind fun bt264 => ((laws_toLeaper.f a1_0 a1_1).bind fun bt269 => ((spec_ForcedLeaps.f k bt264.1 bt264.2.1 bt264.2.2 bt269.1 bt269.2).bind fun bt271 => ((laws_toBoard.f k a0_0 a0_1 l0_2).bind fun bt275 => ((laws_toLeaper.f a1_0 a1_1).bind fun bt281 => ((impl_ForcedLeaps.f k bt275.1 bt275.2.1 bt275.2.2 bt281.1 bt281.2).bind fun bt283 => ((laws_eqIntSS.f k bt283.1 bt271.1).bind fun t287 => (if t287 = true then (laws_FnExactForcedLeaps.j0 k bt271.1 bt271.2 bt283.1 bt283.2 (bt283.2 != bt271.2) a0_0 a0_1 l0_2 a1_0 a1_1 bt275.1 bt275.2.1 bt275.2.2) else (laws_FnExactForcedLeaps.j0 k bt271.1 bt271.2 bt283.1 bt283.2 true a0_0 a0_1 l0_2 a1_0 a1_1 bt275.1 bt275.2.1 bt275.2.2))))))))))
def laws_FnExactForcedLeaps.T5 : Bool × List (List Nat × List Nat) := (true, [([], []), ([0], [0]), ([], []), ([2, 1], [2]), ([1, 3, 3], [1, 3]), ([4], [4]), ([5], [5]), ([5], [5]), ([6, 4, 0, 1, 2, 3, 4, 5, 6], [6]), ([7, 8, 0, 1, 2, 3, 4, 5, 6, 7, 8], [7])])
def laws_FnExactForcedLeaps.B5 : List Nat := [0, 1, 0, 7, 15, 31, 63, 63, 127, 511]
theorem laws_FnExactForcedLeaps.tab5 : rtab .any (opsOf Try.f3 5) = laws_FnExactForcedLeaps.T5 := by kernel_rfl
theorem laws_FnExactForcedLeaps.bits5 : waitsOk laws_FnExactForcedLeaps.T5.2 laws_FnExactForcedLeaps.B5 = true := by kernel_rfl
def laws_FnExactForcedLeaps.T7 : Bool × List (List Nat × List Nat) := (true, [([], []), ([], []), ([1], [1]), ([0, 2, 2], [0, 2]), ([3], [3]), ([4], [4]), ([4], [4]), ([5, 3, 0, 1, 2, 3, 4, 5], [5]), ([6, 7, 0, 1, 2, 3, 4, 5, 6, 7], [6])])
def laws_FnExactForcedLeaps.B7 : List Nat := [0, 0, 2, 7, 15, 31, 31, 63, 255]
theorem laws_FnExactForcedLeaps.tab7 : rtab .any (opsOf Try.f3 7) = laws_FnExactForcedLeaps.T7 := by kernel_rfl
theorem laws_FnExactForcedLeaps.bits7 : waitsOk laws_FnExactForcedLeaps.T7.2 laws_FnExactForcedLeaps.B7 = true := by kernel_rfl
def laws_FnExactForcedLeaps.T24 : Bool × List (List Nat × List Nat) := (true, [([], []), ([0], [0]), ([], []), ([2, 1], [2]), ([1, 3, 3], [1, 3]), ([4], [4]), ([5], [5]), ([5], [5]), ([6, 4, 0, 1, 2, 3, 4, 5, 6], [6]), ([7, 8, 0, 1, 2, 3, 4, 5, 6, 7, 8], [7])])
def laws_FnExactForcedLeaps.B24 : List Nat := [0, 1, 0, 7, 15, 31, 63, 63, 127, 511]
theorem laws_FnExactForcedLeaps.tab24 : rtab .any (opsOf Try.f3 24) = laws_FnExactForcedLeaps.T24 := by kernel_rfl
theorem laws_FnExactForcedLeaps.bits24 : waitsOk laws_FnExactForcedLeaps.T24.2 laws_FnExactForcedLeaps.B24 = true := by kernel_rfl
set_option maxHeartbeats 8000000 in
set_option maxRecDepth 100000 in
theorem laws_FnExactForcedLeaps.calls (k : Nat) (a0_0 : Int) (a0_1 : Int) (A0_2 : Option Addr) (c0_2 : Nat) (l0_2 : List Int) (a1_0 : Int) (a1_1 : Int) (r : Bool) (w : World) (hr0_2 : Kd.C (Kd.int .i64) w A0_2 l0_2.length l0_2) (hc0_2 : l0_2.length ≤ c0_2) (h : laws_FnExactForcedLeaps.f k a0_0 a0_1 l0_2 a1_0 a1_1 = some r) :
  Calls Try.prog 3 #[.agg #[.int .i64 a0_0, .int .i64 a0_1, .slice A0_2 l0_2.length c0_2], .agg #[.int .i64 a1_0, .int .i64 a1_1]] w fun e w' => e = .returned (.bool r) ∧ Below w.heap.size w w' := by
 have hu24 := Try.underlying24
 have hu26 := Try.underlying26
 have hu31 := Try.underlying31
 have HR0_2 := Aside0.mk hr0_2
 have HC0_2 := Aside0.mk hc0_2
 clear hr0_2 hc0_2
 have HB := Aside0.mk (Below.refl w.heap.size w)
 have H : ((laws_szBoard.f a0_0 a0_1 l0_2 1048576).bind fun t263 => (if t263 < 0 then (some true) else ((laws_toBoard.f k a0_0 a0_1 l0_2).bind fun bt264 => ((laws_toLeaper.f a1_0 a1_1).bind fun bt269 => ((spec_ForcedLeaps.f k bt264.1 bt264.2.1 bt264.2.2 bt269.1 bt269.2).bind fun bt271 => ((laws_toBoard.f k a0_0 a0_1 l0_2).bind fun bt275 => ((laws_toLeaper.f a1_0 a1_1).bind fun bt281 => ((impl_ForcedLeaps.f k bt275.1 bt275.2.1 bt275.2.2 bt281.1 bt281.2).bind fun bt283 => ((laws_eqIntSS.f k bt283.1 bt271.1).bind fun t287 => (if t287 = true then (laws_FnExactForcedLeaps.j0 k bt271.1 bt271.2 bt283.1 bt283.2 (bt283.2 != bt271.2) a0_0 a0_1 l0_2 a1_0 a1_1 bt275.1 bt275.2.1 bt275.2.2) else (laws_FnExactForcedLeaps.j0 k bt271.1 bt271.2 bt283.1 bt283.2 true a0_0 a0_1 l0_2 a1_0 a1_1 bt275.1 bt275.2.1 bt275.2.2))))))))))) = some r := h
 clear h
 replace H := Option.bind_eq_some_iff.mp H
 obtain ⟨t263, A30, H⟩ := H
 replace H : (if t263 < 0 then (some true) else ((laws_toBoard.f k a0_0 a0_1 l0_2).bind fun bt264 => ((laws_toLeaper.f a1_0 a1_1).bind fun bt269 => ((spec_ForcedLeaps.f k bt264.1 bt264.2.1 bt264.2.2 bt269.1 bt269.2).bind fun bt271 => ((laws_toBoard.f k a0_0 a0_1 l0_2).bind fun bt275 => ((laws_toLeaper.f a1_0 a1_1).bind fun bt281 => ((impl_ForcedLeaps.f k bt275.1 bt275.2.1 bt275.2.2 bt281.1 bt281.2).bind fun bt283 => ((laws_eqIntSS.f k bt283.1 bt271.1).bind fun t287 => (if t287 = true then (laws_FnExactForcedLeaps.j0 k bt271.1 bt271.2 bt283.1 bt283.2 (bt283.2 != bt271.2) a0_0 a0_1 l0_2 a1_0 a1_1 bt275.1 bt275.2.1 bt275.2.2) else (laws_FnExactForcedLeaps.j0 k bt271.1 bt271.2 bt283.1 bt283.2 true a0_0 a0_1 l0_2 a1_0 a1_1 bt275.1 bt275.2.1 bt275.2.2)))))))))) = some r := H
 have A3 := Aside0.mk A30
 clear A30
 by_cases c4 : t263 < 0
 ·rw [if_pos c4] at H
  have c4b0 : decide (t263 < 0) = true := decide_eq_true c4
  clear c4
  obtain rfl := Option.some.inj H
  go_enter Try.func3, Try.ntmps3
  go_wp2_with (first | ((with_reducible refine gate_dst (N := 2) rfl ?_); refine box_event ?hg (N := 2) ?hd (cs := #[.int .i64 a0_0, .int .i64 a0_1, .slice A0_2 l0_2.length c0_2]) (t := 24) ?hr ?_; (case hd => rfl); (case hg => rfl); (case hr => first | (go_simp; done) | (go_simp; rfl)); intro gb261 hg w5 hbox hb; have n0_ := Aside0.mk (below_step zi16 hb); have n1_ := Aside0.mk (hbox); have n2_ := Aside0.mk ((by rw [hg]; exact (below_size zi16) : w.heap.size ≤ gb261)); have n3_ := Aside0.mk ((by rw [hg]; exact (below_size zi16) : w.heap.size ≤ gb261)); clear HB; have HB := n0_; have BK261 := n1_; have GW261 := n2_; have GE261 := n3_; clear n0_ n1_ n2_ n3_; clear hb hbox hg) | ((with_reducible refine gate_dst (N := 3) rfl ?_); refine box_event ?hg (N := 3) ?hd (cs := #[.int .i64 a1_0, .int .i64 a1_1]) (t := 26) ?hr ?_; (case hd => rfl); (case hg => rfl); (case hr => first | (go_simp; done) | (go_simp; rfl)); intro gb262 hg w6 hbox hb; have n0_ := Aside0.mk (blk_below (g := gb261) (o := .cells #[.int .i64 a0_0, .int .i64 a0_1, .slice A0_2 l0_2.length c0_2] 24 (0, 0)) zi2 hb); have n1_ := Aside0.mk (below_step zi14 hb); have n2_ := Aside0.mk (hbox); have n3_ := Aside0.mk ((by rw [hg]; exact (below_size zi14) : w.heap.size ≤ gb262)); have n4_ := Aside0.mk ((by rw [hg]; exact (below_size zi14) : w.heap.size ≤ gb262)); have n5_ := Aside0.mk ((zi41 : gb261 ≠ gb262)); have n6_ := Aside0.mk ((zi42 : gb262 ≠ gb261)); clear BK261; clear HB; have BK261 := n0_; have HB := n1_; have BK262 := n2_; have GW262 := n3_; have GE262 := n4_; have NB261_262 := n5_; have NB262_261 := n6_; clear n0_ n1_ n2_ n3_ n4_ n5_ n6_; clear hb hbox hg; have hnb7 := NB261_262.out; have hnc7 := NB262_261.out; have hcz8_0 : w6.cell? ⟨gb261, 0, none⟩ = some (.int .i64 a0_0) := (blk_cell BK261.out 0).trans rfl; have hcz8_1 : w6.cell? ⟨gb261, 1, none⟩ = some (.int .i64 a0_1) := (blk_cell BK261.out 1).trans rfl; have hcz8_2 : w6.cell? ⟨gb261, 2, none⟩ = some (.slice A0_2 l0_2.length c0_2) := (blk_cell BK261.out 2).trans rfl; have hfz8_0 := blk_frozen BK261.out 0; have hfz8_1 := blk_frozen BK261.out 1; have hfz8_2 := blk_frozen BK261.out 2) | ((with_reducible refine gate_callee (f := 7) rfl ?_); refine goesL_ (some 18) rfl rfl Try.func7 (by kernel_rfl) rfl #[.agg #[.int .i64 a0_0, .int .i64 a0_1, .slice A0_2 l0_2.length c0_2], .int .i64 1048576] rfl zi4 ?_; (with_reducible refine (laws_szBoard.calls a0_0 a0_1 _ _ l0_2 1048576 t263 _ ?side1 ?side2 A3.out).mono ?_); (case side1 => exact zi11); (case side2 => exact HC0_2.out); rintro e w9 ⟨rfl, hb⟩; refine ⟨_, rfl, ?_⟩; have n0_ := Aside0.mk (blk_below (g := gb261) (o := .cells #[.int .i64 a0_0, .int .i64 a0_1, .slice A0_2 l0_2.length c0_2] 24 (0, 0)) zi2 hb); have n1_ := Aside0.mk (blk_below (g := gb262) (o := .cells #[.int .i64 a1_0, .int .i64 a1_1] 26 (0, 0)) zi3 hb); have n2_ := Aside0.mk (below_step zi7 hb); clear BK261; clear BK262; clear HB; have BK261 := n0_; have BK262 := n1_; have HB := n2_; clear n0_ n1_ n2_; (try clear hb); (try clear hb2); (try clear hk); (try clear hi); (try clear hna_); (try clear hnb_)))
  go_ret
  exact ⟨zi12, zi7⟩
 rw [if_neg c4] at H
 have c4b0 : decide (t263 < 0) = false := decide_eq_false c4
 clear c4
 replace H := Option.bind_eq_some_iff.mp H
 obtain ⟨⟨t264, t265, t266⟩, A100, H⟩ := H
 replace H : ((laws_toLeaper.f a1_0 a1_1).bind fun bt269 => ((spec_ForcedLeaps.f k t264 t265 t266 bt269.1 bt269.2).bind fun bt271 => ((laws_toBoard.f k a0_0 a0_1 l0_2).bind fun bt275 => ((laws_toLeaper.f a1_0 a1_1).bind fun bt281 => ((impl_ForcedLeaps.f k bt275.1 bt275.2.1 bt275.2.2 bt281.1 bt281.2).bind fun bt283 => ((laws_eqIntSS.f k bt283.1 bt271.1).bind fun t287 => (if t287 = true then (laws_FnExactForcedLeaps.j0 k bt271.1 bt271.2 bt283.1 bt283.2 (bt283.2 != bt271.2) a0_0 a0_1 l0_2 a1_0 a1_1 bt275.1 bt275.2.1 bt275.2.2) else (laws_FnExactForcedLeaps.j0 k bt271.1 bt271.2 bt283.1 bt283.2 true a0_0 a0_1 l0_2 a1_0 a1_1 bt275.1 bt275.2.1 bt275.2.2)))))))) = some r := H
 have A10 := Aside0.mk A100
 clear A100
 replace H := Option.bind_eq_some_iff.mp H
 obtain ⟨⟨t269, t270⟩, A110, H⟩ := H
 replace H : ((spec_ForcedLeaps.f k t264 t265 t266 t269 t270).bind fun bt271 => ((laws_toBoard.f k a0_0 a0_1 l0_2).bind fun bt275 => ((laws_toLeaper.f a1_0 a1_1).bind fun bt281 => ((impl_ForcedLeaps.f k bt275.1 bt275.2.1 bt275.2.2 bt281.1 bt281.2).bind fun bt283 => ((laws_eqIntSS.f k bt283.1 bt271.1).bind fun t287 => (if t287 = true then (laws_FnExactForcedLeaps.j0 k bt271.1 bt271.2 bt283.1 bt283.2 (bt283.2 != bt271.2) a0_0 a0_1 l0_2 a1_0 a1_1 bt275.1 bt275.2.1 bt275.2.2) else (laws_FnExactForcedLeaps.j0 k bt271.1 bt271.2 bt283.1 bt283.2 true a0_0 a0_1 l0_2 a1_0 a1_1 bt275.1 bt275.2.1 bt275.2.2))))))) = some r := H
 have A11 := Aside0.mk A110
 clear A110
 replace H := Option.bind_eq_some_iff.mp H
 obtain ⟨⟨t271, t274⟩, A120, H⟩ := H
 replace H : ((laws_toBoard.f k a0_0 a0_1 l0_2).bind fun bt275 => ((laws_toLeaper.f a1_0 a1_1).bind fun bt281 => ((impl_ForcedLeaps.f k bt275.1 bt275.2.1 bt275.2.2 bt281.1 bt281.2).bind fun bt283 => ((laws_eqIntSS.f k bt283.1 t271).bind fun t287 => (if t287 = true then (laws_FnExactForcedLeaps.j0 k t271 t274 bt283.1 bt283.2 (bt283.2 != t274) a0_0 a0_1 l0_2 a1_0 a1_1 bt275.1 bt275.2.1 bt275.2.2) else (laws_FnExactForcedLeaps.j0 k t271 t274 bt283.1 bt283.2 true a0_0 a0_1 l0_2 a1_0 a1_1 bt275.1 bt275.2.1 bt275.2.2)))))) = some r := H
 have A12 := Aside0.mk A120
 clear A120
 replace H := Option.bind_eq_some_iff.mp H
 obtain ⟨⟨t275, t276, t277⟩, A130, H⟩ := H
 replace H : ((laws_toLeaper.f a1_0 a1_1).bind fun bt281 => ((impl_ForcedLeaps.f k t275 t276 t277 bt281.1 bt281.2).bind fun bt283 => ((laws_eqIntSS.f k bt283.1 t271).bind fun t287 => (if t287 = true then (laws_FnExactForcedLeaps.j0 k t271 t274 bt283.1 bt283.2 (bt283.2 != t274) a0_0 a0_1 l0_2 a1_0 a1_1 t275 t276 t277) else (laws_FnExactForcedLeaps.j0 k t271 t274 bt283.1 bt283.2 true a0_0 a0_1 l0_2 a1_0 a1_1 t275 t276 t277))))) = some r := H
 have A13 := Aside0.mk A130
 clear A130
 replace H := Option.bind_eq_some_iff.mp H
 obtain ⟨⟨t281, t282⟩, A140, H⟩ := H
 replace H : ((impl_ForcedLeaps.f k t275 t276 t277 t281 t282).bind fun bt283 => ((laws_eqIntSS.f k bt283.1 t271).bind fun t287 => (if t287 = true then (laws_FnExactForcedLeaps.j0 k t271 t274 bt283.1 bt283.2 (bt283.2 != t274) a0_0 a0_1 l0_2 a1_0 a1_1 t275 t276 t277) else (laws_FnExactForcedLeaps.j0 k t271 t274 bt283.1 bt283.2 true a0_0 a0_1 l0_2 a1_0 a1_1 t275 t276 t277)))) = some r := H
 have A14 := Aside0.mk A140
 clear A140
 replace H := Option.bind_eq_some_iff.mp H
 obtain ⟨⟨t283, t286⟩, A150, H⟩ := H
 replace H : ((laws_eqIntSS.f k t283 t271).bind fun t287 => (if t287 = true then (laws_FnExactForcedLeaps.j0 k t271 t274 t283 t286 (t286 != t274) a0_0 a0_1 l0_2 a1_0 a1_1 t275 t276 t277) else (laws_FnExactForcedLeaps.j0 k t271 t274 t283 t286 true a0_0 a0_1 l0_2 a1_0 a1_1 t275 t276 t277))) = some r := H
 have A15 := Aside0.mk A150
 clear A150
 have HC16 := Aside0.mk H
 clear H
 go_enter Try.func3, Try.ntmps3
 try go_wp2_with (first | ((with_reducible refine gate_dst (N := 2) rfl ?_); refine box_event ?hg (N := 2) ?hd (cs := #[.int .i64 a0_0, .int .i64 a0_1, .slice A0_2 l0_2.length c0_2]) (t := 24) ?hr ?_; (case hd => rfl); (case hg => rfl); (case hr => first | (go_simp; done) | (go_simp; rfl)); intro gb261 hg w17 hbox hb; have n0_ := Aside0.mk (below_step zi16 hb); have n1_ := Aside0.mk (hbox); have n2_ := Aside0.mk ((by rw [hg]; exact (below_size zi16) : w.heap.size ≤ gb261)); have n3_ := Aside0.mk ((by rw [hg]; exact (below_size zi16) : w.heap.size ≤ gb261)); clear HB; have HB := n0_; have BK261 := n1_; have GW261 := n2_; have GE261 := n3_; clear n0_ n1_ n2_ n3_; clear hb hbox hg) | ((with_reducible refine gate_dst (N := 3) rfl ?_); refine box_event ?hg (N := 3) ?hd (cs := #[.int .i64 a1_0, .int .i64 a1_1]) (t := 26) ?hr ?_; (case hd => rfl); (case hg => rfl); (case hr => first | (go_simp; done) | (go_simp; rfl)); intro gb262 hg w18 hbox hb; have n0_ := Aside0.mk (blk_below (g := gb261) (o := .cells #[.int .i64 a0_0, .int .i64 a0_1, .slice A0_2 l0_2.length c0_2] 24 (0, 0)) zi2 hb); have n1_ := Aside0.mk (below_step zi14 hb); have n2_ := Aside0.mk (hbox); have n3_ := Aside0.mk ((by rw [hg]; exact (below_size zi14) : w.heap.size ≤ gb262)); have n4_ := Aside0.mk ((by rw [hg]; exact (below_size zi14) : w.heap.size ≤ gb262)); have n5_ := Aside0.mk ((zi41 : gb261 ≠ gb262)); have n6_ := Aside0.mk ((zi42 : gb262 ≠ gb261)); clear BK261; clear HB; have BK261 := n0_; have HB := n1_; have BK262 := n2_; have GW262 := n3_; have GE262 := n4_; have NB261_262 := n5_; have NB262_261 := n6_; clear n0_ n1_ n2_ n3_ n4_ n5_ n6_; clear hb hbox hg; have hnb19 := NB261_262.out; have hnc19 := NB262_261.out; have hcz20_0 : w18.cell? ⟨gb261, 0, none⟩ = some (.int .i64 a0_0) := (blk_cell BK261.out 0).trans rfl; have hcz20_1 : w18.cell? ⟨gb261, 1, none⟩ = some (.int .i64 a0_1) := (blk_cell BK261.out 1).trans rfl; have hcz20_2 : w18.cell? ⟨gb261, 2, none⟩ = some (.slice A0_2 l0_2.length c0_2) := (blk_cell BK261.out 2).trans rfl; have hfz20_0 := blk_frozen BK261.out 0; have hfz20_1 := blk_frozen BK261.out 1; have hfz20_2 := blk_frozen BK261.out 2) | ((with_reducible refine gate_callee (f := 7) rfl ?_); refine goesL_ (some 18) rfl rfl Try.func7 (by kernel_rfl) rfl #[.agg #[.int .i64 a0_0, .int .i64 a0_1, .slice A0_2 l0_2.length c0_2], .int .i64 1048576] rfl zi4 ?_; (with_reducible refine (laws_szBoard.calls a0_0 a0_1 _ _ l0_2 1048576 t263 _ ?side1 ?side2 A3.out).mono ?_); (case side1 => exact zi11); (case side2 => exact HC0_2.out); rintro e w21 ⟨rfl, hb⟩; refine ⟨_, rfl, ?_⟩; have n0_ := Aside0.mk (blk_below (g := gb261) (o := .cells #[.int .i64 a0_0, .int .i64 a0_1, .slice A0_2 l0_2.length c0_2] 24 (0, 0)) zi2 hb); have n1_ := Aside0.mk (blk_below (g := gb262) (o := .cells #[.int .i64 a1_0, .int .i64 a1_1] 26 (0, 0)) zi3 hb); have n2_ := Aside0.mk (below_step zi7 hb); clear BK261; clear BK262; clear HB; have BK261 := n0_; have BK262 := n1_; have HB := n2_; clear n0_ n1_ n2_; (try clear hb); (try clear hb2); (try clear hk); (try clear hi); (try clear hna_); (try clear hnb_)))
 have n0_ := Aside0.mk (blk_drew BK261.out)
 have n1_ := Aside0.mk (blk_drew BK262.out)
 have n2_ := Aside0.mk (below_drew1 HB.out)
 clear BK261
 clear BK262
 clear HB
 have BK261 := n0_
 have BK262 := n1_
 have HB := n2_
 clear n0_ n1_ n2_
 refine start_ (n := 10) (S := fun w' => w'.cell? ⟨gb261, 0, none⟩ = some (.int .i64 a0_0) ∧ w'.cell? ⟨gb261, 1, none⟩ = some (.int .i64 a0_1) ∧ w'.cell? ⟨gb261, 2, none⟩ = some (.slice A0_2 l0_2.length c0_2) ∧ w'.cell? ⟨gb262, 0, none⟩ = some (.int .i64 a1_0) ∧ w'.cell? ⟨gb262, 1, none⟩ = some (.int .i64 a1_1)) (ds := []) #[false, false, false, false, false, false, false, false, false, false] (by kernel_rfl) rfl rfl ⟨(blk_cell BK261.out 0).trans rfl, (blk_cell BK261.out 1).trans rfl, (blk_cell BK261.out 2).trans rfl, (blk_cell BK262.out 0).trans rfl, (blk_cell BK262.out 1).trans rfl⟩ (fun hHeld => ?_); refine with_tabW laws_FnExactForcedLeaps.tab5 laws_FnExactForcedLeaps.bits5 (fun HT_ HW_ => ?_)
 generalize w21.drew = w22 at BK261 BK262 HB hHeld ⊢
 refine take_ (i := 0) (N := some 22) (v := ?_) (a' := ?_) #[true, false, false, false, false, false, false, false, false, false] rfl rfl (take_ofW HT_.out HW_.out (by kernel_rfl)) (fun _ _ _ h => h) (Or.inl ⟨by rfl, ?_⟩) hHeld ?_ ?_
 rotate_left
 ·rintro w' ⟨s0, s1, s2, s3, s4⟩
  go_simp
  with_reducible rfl
 rotate_left
 ·simp only [Act.put, List.setIfInBounds_toArray, List.set_cons_zero, List.set_cons_succ, i64_w, i32_w]
  rfl
 refine take_ (i := 2) (N := some 24) (v := ?_) (a' := ?_) #[true, false, true, false, false, false, false, false, false, false] rfl rfl (take_ofW HT_.out HW_.out (by kernel_rfl)) (fun _ _ _ h => h) (Or.inl ⟨by rfl, ?_⟩) hHeld ?_ ?_
 rotate_left
 ·rintro w' ⟨s0, s1, s2, s3, s4⟩
  go_simp
  with_reducible rfl
 rotate_left
 ·simp only [Act.put, List.setIfInBounds_toArray, List.set_cons_zero, List.set_cons_succ, i64_w, i32_w]
  rfl
 refine one_ (i := 1) (N := some 23) #[true, true, true, false, false, false, false, false, false, false] rfl rfl (one_of HT_.out (by kernel_rfl)) (by decide) (fun K hK => ?_)
 refine goes_ Try.func9 (by kernel_rfl) rfl #[.agg #[.int .i64 a0_0, .int .i64 a0_1, .slice A0_2 l0_2.length c0_2]] (by rfl) rfl rfl zi4 ?_
 with_reducible refine (laws_toBoard.calls k a0_0 a0_1 _ _ l0_2 t264 t265 t266 _ ?side1 ?side2 A10.out).mono ?_
 (case side1 => exact zi11)
 (case side2 => exact HC0_2.out)
 rintro e w23 ⟨v267, rfl, ho0, hb⟩
 refine ⟨_, rfl, ?_⟩
 have n0_ := Aside0.mk (Kd.R_lower ho0 (below_size zi7))
 have n1_ := Aside0.mk (blk_below (g := gb261) (o := .cells #[.int .i64 a0_0, .int .i64 a0_1, .slice A0_2 l0_2.length c0_2] 24 (0, 0)) zi2 hb)
 have n2_ := Aside0.mk (blk_below (g := gb262) (o := .cells #[.int .i64 a1_0, .int .i64 a1_1] 26 (0, 0)) zi3 hb)
 have n3_ := Aside0.mk (below_step zi7 hb)
 clear BK261
 clear BK262
 clear HB
 have HO268 := n0_
 have BK261 := n1_
 have BK262 := n2_
 have HB := n3_
 clear n0_ n1_ n2_ n3_
 (try clear hb)
 (try clear hb2)
 (try clear hk)
 (try clear hi)
 (try clear ho0)
 (try clear hna_)
 (try clear hnb_)
 refine hK.out _ _ ⟨(blk_cell BK261.out 0).trans rfl, (blk_cell BK261.out 1).trans rfl, (blk_cell BK261.out 2).trans rfl, (blk_cell BK262.out 0).trans rfl, (blk_cell BK262.out 1).trans rfl⟩ (fun hHeld => ?_)
 clear hK K
 refine norm_ (a' := ?_) ?_ ?_
 rotate_left
 ·show Act.put _ (some 23) _ = _
  simp only [Act.put, List.setIfInBounds_toArray, List.set_cons_zero, List.set_cons_succ, i64_w, i32_w]
  rfl
 refine one_ (i := 3) (N := some 25) #[true, true, true, true, false, false, false, false, false, false] rfl rfl (one_of HT_.out (by kernel_rfl)) (by decide) (fun K hK => ?_)
 refine goes_ Try.func10 (by kernel_rfl) rfl #[.agg #[.int .i64 a1_0, .int .i64 a1_1]] (by rfl) rfl rfl zi4 ?_
 with_reducible refine (laws_toLeaper.calls a1_0 a1_1 t269 t270 _ A11.out).mono ?_
 rintro e w24 ⟨rfl, hb⟩
 refine ⟨_, rfl, ?_⟩
 have n0_ := Aside0.mk (Kd.R_below zi13 hb)
 have n1_ := Aside0.mk (blk_below (g := gb261) (o := .cells #[.int .i64 a0_0, .int .i64 a0_1, .slice A0_2 l0_2.length c0_2] 24 (0, 0)) zi2 hb)
 have n2_ := Aside0.mk (blk_below (g := gb262) (o := .cells #[.int .i64 a1_0, .int .i64 a1_1] 26 (0, 0)) zi3 hb)
 have n3_ := Aside0.mk (below_step zi7 hb)
 clear HO268
 clear BK261
 clear BK262
 clear HB
 have HO268 := n0_
 have BK261 := n1_
 have BK262 := n2_
 have HB := n3_
 clear n0_ n1_ n2_ n3_
 (try clear hb)
 (try clear hb2)
 (try clear hk)
 (try clear hi)
 (try clear hna_)
 (try clear hnb_)
 obtain ⟨Ao25, co25, eo25⟩ := Kd.R_slice HO268.out
 (first | subst eo25 | (injection eo25 with f1_ f2_ f3_; have f4_ := f1_.symm; have f5_ := f3_.symm; clear f1_ f2_ f3_; subst f4_; subst f5_))
 refine hK.out _ _ ⟨(blk_cell BK261.out 0).trans rfl, (blk_cell BK261.out 1).trans rfl, (blk_cell BK261.out 2).trans rfl, (blk_cell BK262.out 0).trans rfl, (blk_cell BK262.out 1).trans rfl⟩ (fun hHeld => ?_)
 clear hK K
 refine norm_ (a' := ?_) ?_ ?_
 rotate_left
 ·show Act.put _ (some 25) _ = _
  simp only [Act.put, List.setIfInBounds_toArray, List.set_cons_zero, List.set_cons_succ, i64_w, i32_w]
  rfl
 refine one_ (i := 4) (N := some 26) #[true, true, true, true, true, false, false, false, false, false] rfl rfl (one_of HT_.out (by kernel_rfl)) (by decide) (fun K hK => ?_)
 refine goes_ Try.func8 (by kernel_rfl) rfl #[.agg #[.int .i64 t264, .int .i64 t265, .slice Ao25 t266.length co25], .agg #[.int .i64 t269, .int .i64 t270]] (by rfl) rfl rfl zi4 ?_
 with_reducible refine (spec_ForcedLeaps.calls k t264 t265 _ _ t266 t269 t270 t271 t274 _ ?side1 ?side2 A12.out).mono ?_
 (case side1 => repeat (first | exact (Kd.R_reads' HO268.out).2.2 | (with_reducible refine Kd.C_alloc ?_ _) | (with_reducible refine Kd.C_drewN ?_ _) | (with_reducible refine Kd.C_drew ?_)))
 (case side2 => exact (Kd.R_reads' HO268.out).2.1)
 rintro e w26 ⟨v272, rfl, ho0, hb⟩
 refine ⟨_, rfl, ?_⟩
 have n0_ := Aside0.mk (Kd.R_below zi13 hb)
 have n1_ := Aside0.mk (Kd.S_lower (Kd.S_new' ho0 (Kd.R_lt zi13)) (below_size zi7))
 have n2_ := Aside0.mk (blk_below (g := gb261) (o := .cells #[.int .i64 a0_0, .int .i64 a0_1, .slice A0_2 l0_2.length c0_2] 24 (0, 0)) zi2 hb)
 have n3_ := Aside0.mk (blk_below (g := gb262) (o := .cells #[.int .i64 a1_0, .int .i64 a1_1] 26 (0, 0)) zi3 hb)
 have n4_ := Aside0.mk (below_step zi7 hb)
 clear HO268
 clear BK261
 clear BK262
 clear HB
 have HO268 := n0_
 have HO273 := n1_
 have BK261 := n2_
 have BK262 := n3_
 have HB := n4_
 clear n0_ n1_ n2_ n3_ n4_
 (try clear hb)
 (try clear hb2)
 (try clear hk)
 (try clear hi)
 (try clear ho0)
 (try clear hna_)
 (try clear hnb_)
 refine hK.out _ _ ⟨(blk_cell BK261.out 0).trans rfl, (blk_cell BK261.out 1).trans rfl, (blk_cell BK261.out 2).trans rfl, (blk_cell BK262.out 0).trans rfl, (blk_cell BK262.out 1).trans rfl⟩ (fun hHeld => ?_)
 clear hK K
 refine norm_ (a' := ?_) ?_ ?_
 rotate_left
 ·show Act.put _ (some 26) _ = _
  simp only [Act.put, List.setIfInBounds_toArray, List.set_cons_zero, List.set_cons_succ, i64_w, i32_w]
  rfl
 refine pure_ (i := 5) (N := some 21) (v := ?_) (a' := ?_) #[true, true, true, true, true, true, false, false, false, false] rfl rfl (any_of HT_.out (by kernel_rfl)) (fun _ _ _ h => h) (Or.inl ⟨by rfl, ?_⟩) ?_ ?_
 rotate_left
 ·intro w'
  go_simp
  with_reducible rfl
 rotate_left
 ·simp only [Act.put, List.setIfInBounds_toArray, List.set_cons_zero, List.set_cons_succ, i64_w, i32_w]
  rfl
 refine pure_ (i := 6) (N := some 27) (v := ?_) (a' := ?_) #[true, true, true, true, true, true, true, false, false, false] rfl rfl (any_of HT_.out (by kernel_rfl)) (fun _ _ _ h => h) (Or.inl ⟨by rfl, ?_⟩) ?_ ?_
 rotate_left
 ·intro w'
  go_simp
  with_reducible rfl
 rotate_left
 ·simp only [Act.put, List.setIfInBounds_toArray, List.set_cons_zero, List.set_cons_succ, i64_w, i32_w]
  rfl
 refine pure_ (i := 7) (N := some 28) (v := ?_) (a' := ?_) #[true, true, true, true, true, true, true, true, false, false] rfl rfl (any_of HT_.out (by kernel_rfl)) (fun _ _ _ h => h) (Or.inl ⟨by rfl, ?_⟩) ?_ ?_
 rotate_left
 ·intro w'
  go_simp
  with_reducible rfl
 rotate_left
 ·simp only [Act.put, List.setIfInBounds_toArray, List.set_cons_zero, List.set_cons_succ, i64_w, i32_w]
  rfl
 refine pure_ (i := 8) (N := some 6) (v := ?_) (a' := ?_) #[true, true, true, true, true, true, true, true, true, false] rfl rfl (any_of HT_.out (by kernel_rfl)) (fun _ _ _ h => h) (Or.inl ⟨by rfl, ?_⟩) ?_ ?_
 rotate_left
 ·intro w'
  go_simp
  with_reducible rfl
 rotate_left
 ·simp only [Act.put, List.setIfInBounds_toArray, List.set_cons_zero, List.set_cons_succ, i64_w, i32_w]
  rfl
 refine pure_ (i := 9) (N := some 7) (v := ?_) (a' := ?_) #[true, true, true, true, true, true, true, true, true, true] rfl rfl (any_of HT_.out (by kernel_rfl)) (fun _ _ _ h => h) (Or.inl ⟨by rfl, ?_⟩) ?_ ?_
 rotate_left
 ·intro w'
  go_simp
  with_reducible rfl
 rotate_left
 ·simp only [Act.put, List.setIfInBounds_toArray, List.set_cons_zero, List.set_cons_succ, i64_w, i32_w]
  rfl
 refine done_ (done_of HT_.out (by kernel_rfl)) ?_
 have hcz27_0 : w26.cell? ⟨gb261, 0, none⟩ = some (.int .i64 a0_0) := (blk_cell BK261.out 0).trans rfl
 have hcz27_1 : w26.cell? ⟨gb261, 1, none⟩ = some (.int .i64 a0_1) := (blk_cell BK261.out 1).trans rfl
 have hcz27_2 : w26.cell? ⟨gb261, 2, none⟩ = some (.slice A0_2 l0_2.length c0_2) := (blk_cell BK261.out 2).trans rfl
 have hfz27_0 := blk_frozen BK261.out 0
 have hfz27_1 := blk_frozen BK261.out 1
 have hfz27_2 := blk_frozen BK261.out 2
 try go_wp2_with (first | ((with_reducible refine gate_callee (f := 9) rfl ?_); refine goesL_ (some 30) rfl rfl Try.func9 (by kernel_rfl) rfl #[.agg #[.int .i64 a0_0, .int .i64 a0_1, .slice A0_2 l0_2.length c0_2]] rfl zi4 ?_; (with_reducible refine (laws_toBoard.calls k a0_0 a0_1 _ _ l0_2 t275 t276 t277 _ ?side1 ?side2 A13.out).mono ?_); (case side1 => exact zi11); (case side2 => exact HC0_2.out); rintro e w28 ⟨v278, rfl, ho0, hb⟩; refine ⟨_, rfl, ?_⟩; have n0_ := Aside0.mk (Kd.R_elder' zi13 (Kd.R_base ho0) hb); have n1_ := Aside0.mk (Kd.S_elder' zi20 (Kd.R_base ho0) hb); have n2_ := Aside0.mk (Kd.R_lower (Kd.R_new' ho0 (Kd.R_lt zi13)) (below_size zi7)); have n3_ := Aside0.mk (blk_below (g := gb261) (o := .cells #[.int .i64 a0_0, .int .i64 a0_1, .slice A0_2 l0_2.length c0_2] 24 (0, 0)) zi2 hb); have n4_ := Aside0.mk (blk_below (g := gb262) (o := .cells #[.int .i64 a1_0, .int .i64 a1_1] 26 (0, 0)) zi3 hb); have n5_ := Aside0.mk (below_step zi7 hb); clear HO268; clear HO273; clear BK261; clear BK262; clear HB; have HO268 := n0_; have HO273 := n1_; have HO279 := n2_; have BK261 := n3_; have BK262 := n4_; have HB := n5_; clear n0_ n1_ n2_ n3_ n4_ n5_; (try clear hb); (try clear hb2); (try clear hk); (try clear hi); (try clear ho0); (try clear hna_); (try clear hnb_)) | ((with_reducible refine gate_dst (N := 8) rfl ?_); refine box_event ?hg (N := 8) ?hd (cs := #[.int .i64 0, .int .i64 0, .slice none 0 0]) (t := 31) ?hr ?_; (case hd => rfl); (case hg => rfl); (case hr => first | (go_simp; done) | (go_simp; rfl)); intro gb280 hg w29 hbox hb; have n0_ := Aside0.mk (Kd.R_below zi13 hb); have n1_ := Aside0.mk (Kd.S_below zi20 hb); have n2_ := Aside0.mk (Kd.R_below zi23 hb); have n3_ := Aside0.mk (blk_below (g := gb261) (o := .cells #[.int .i64 a0_0, .int .i64 a0_1, .slice A0_2 l0_2.length c0_2] 24 (0, 0)) zi2 hb); have n4_ := Aside0.mk (blk_below (g := gb262) (o := .cells #[.int .i64 a1_0, .int .i64 a1_1] 26 (0, 0)) zi3 hb); have n5_ := Aside0.mk (below_step zi7 hb); have n6_ := Aside0.mk (hbox); have n7_ := Aside0.mk ((by rw [hg]; exact (below_size zi7) : w.heap.size ≤ gb280)); have n8_ := Aside0.mk ((by rw [hg]; exact (below_size zi7) : w.heap.size ≤ gb280)); have n9_ := Aside0.mk ((zi41 : gb261 ≠ gb280)); have n10_ := Aside0.mk ((zi42 : gb280 ≠ gb261)); have n11_ := Aside0.mk ((by rw [hg]; exact Nat.ne_of_lt (blk_lt (g := gb262) (o := .cells #[.int .i64 a1_0, .int .i64 a1_1] 26 (0, 0)) zi3) : gb262 ≠ gb280)); have n12_ := Aside0.mk ((by rw [hg]; exact Nat.ne_of_gt (blk_lt (g := gb262) (o := .cells #[.int .i64 a1_0, .int .i64 a1_1] 26 (0, 0)) zi3) : gb280 ≠ gb262)); clear HO268; clear HO273; clear HO279; clear BK261; clear BK262; clear HB; have HO268 := n0_; have HO273 := n1_; have HO279 := n2_; have BK261 := n3_; have BK262 := n4_; have HB := n5_; have BK280 := n6_; have GW280 := n7_; have GE280 := n8_; have NB261_280 := n9_; have NB280_261 := n10_; have NB262_280 := n11_; have NB280_262 := n12_; clear n0_ n1_ n2_ n3_ n4_ n5_ n6_ n7_ n8_ n9_ n10_ n11_ n12_; clear hb hbox hg; have hnb30 := NB280_261.out; have hnc30 := NB261_280.out; have hnb31 := NB280_262.out; have hnc31 := NB262_280.out; have hcz32_0 : w29.cell? ⟨gb280, 0, none⟩ = some (.int .i64 0) := (blk_cell BK280.out 0).trans rfl; have hcz32_1 : w29.cell? ⟨gb280, 1, none⟩ = some (.int .i64 0) := (blk_cell BK280.out 1).trans rfl; have hcz32_2 : w29.cell? ⟨gb280, 2, none⟩ = some (.slice none 0 0) := (blk_cell BK280.out 2).trans rfl; have hfz32_0 := blk_frozen BK280.out 0; have hfz32_1 := blk_frozen BK280.out 1; have hfz32_2 := blk_frozen BK280.out 2; obtain ⟨Ao33, co33, eo33⟩ := Kd.R_slice HO279.out; subst eo33))
 have n0_ : Aside0 (Kd.R (Kd.int .i64) 3 (((w29.setCell ⟨gb280, 0, none⟩ (.int .i64 t275)).setCell ⟨gb280, 1, none⟩ (.int .i64 t276)).setCell ⟨gb280, 2, none⟩ (.slice Ao33 t277.length co33)) w.heap.size (fun k_ => some k_ ≠ (.slice Ao33 t277.length co33 : Value).ownBlock) (.slice Ao25 t266.length co25) t266) := ⟨by (with_reducible repeat (first | apply Kd.R_alloc | apply Kd.R_drewN | apply Kd.R_drew)); exact Kd.R_mono (Kd.R_far (p := ⟨gb280, 2, none⟩) (Kd.R_far (p := ⟨gb280, 1, none⟩) (Kd.R_far (p := ⟨gb280, 0, none⟩) (Kd.R_types HO268.out BK280.out (by decide)) (fun _ hk => hk.2) (.int .i64 t275)) (fun _ hk => hk.2) (.int .i64 t276)) (fun _ hk => hk.2) (.slice Ao33 t277.length co33)) (fun _ hk => hk.1.2)⟩
 have n1_ : Aside0 (Kd.S (Kd.slice 3 (Kd.int .i64)) 22 (((w29.setCell ⟨gb280, 0, none⟩ (.int .i64 t275)).setCell ⟨gb280, 1, none⟩ (.int .i64 t276)).setCell ⟨gb280, 2, none⟩ (.slice Ao33 t277.length co33)) w.heap.size (fun k_ => some k_ ≠ (.slice Ao25 t266.length co25 : Value).ownBlock ∧ some k_ ≠ (.slice Ao33 t277.length co33 : Value).ownBlock) v272 t271) := ⟨by (with_reducible repeat (first | apply Kd.S_alloc | apply Kd.S_drewN | apply Kd.S_drew)); exact Kd.S_mono (Kd.S_far (p := ⟨gb280, 2, none⟩) (Kd.S_far (p := ⟨gb280, 1, none⟩) (Kd.S_far (p := ⟨gb280, 0, none⟩) (Kd.S_types HO273.out BK280.out (by decide)) (fun _ hk => hk.2) (.int .i64 t275)) (fun _ hk => hk.2) (.int .i64 t276)) (fun _ hk => hk.2) (.slice Ao33 t277.length co33)) (fun _ hk => ⟨hk.1.1.2, hk.1.2⟩)⟩
 have n2_ : Aside0 (Kd.R (Kd.int .i64) 3 (((w29.setCell ⟨gb280, 0, none⟩ (.int .i64 t275)).setCell ⟨gb280, 1, none⟩ (.int .i64 t276)).setCell ⟨gb280, 2, none⟩ (.slice Ao33 t277.length co33)) w.heap.size (fun k_ => some k_ ≠ (.slice Ao25 t266.length co25 : Value).ownBlock) (.slice Ao33 t277.length co33) t277) := ⟨by (with_reducible repeat (first | apply Kd.R_alloc | apply Kd.R_drewN | apply Kd.R_drew)); exact Kd.R_mono (Kd.R_far (p := ⟨gb280, 2, none⟩) (Kd.R_far (p := ⟨gb280, 1, none⟩) (Kd.R_far (p := ⟨gb280, 0, none⟩) (Kd.R_types HO279.out BK280.out (by decide)) (fun _ hk => hk.2) (.int .i64 t275)) (fun _ hk => hk.2) (.int .i64 t276)) (fun _ hk => hk.2) (.slice Ao33 t277.length co33)) (fun _ hk => hk.1.2)⟩
 have n3_ : Aside0 ((((w29.setCell ⟨gb280, 0, none⟩ (.int .i64 t275)).setCell ⟨gb280, 1, none⟩ (.int .i64 t276)).setCell ⟨gb280, 2, none⟩ (.slice Ao33 t277.length co33)).heap[gb261]? = some (.cells #[.int .i64 a0_0, .int .i64 a0_1, .slice A0_2 l0_2.length c0_2] 24 (0, 0))) := ⟨by (with_reducible repeat (first | refine blk_drewN ?_ _ | refine blk_drew ?_ | refine blk_alloc ?_ _)); refine blk_far ?_ NB261_280.out _; (with_reducible repeat (first | refine blk_drewN ?_ _ | refine blk_drew ?_ | refine blk_alloc ?_ _)); refine blk_far ?_ NB261_280.out _; (with_reducible repeat (first | refine blk_drewN ?_ _ | refine blk_drew ?_ | refine blk_alloc ?_ _)); refine blk_far ?_ NB261_280.out _; first | exact BK261.out | ((with_reducible repeat (first | refine blk_drewN ?_ _ | refine blk_drew ?_ | refine blk_alloc ?_ _)); exact BK261.out)⟩
 have n4_ : Aside0 ((((w29.setCell ⟨gb280, 0, none⟩ (.int .i64 t275)).setCell ⟨gb280, 1, none⟩ (.int .i64 t276)).setCell ⟨gb280, 2, none⟩ (.slice Ao33 t277.length co33)).heap[gb262]? = some (.cells #[.int .i64 a1_0, .int .i64 a1_1] 26 (0, 0))) := ⟨by (with_reducible repeat (first | refine blk_drewN ?_ _ | refine blk_drew ?_ | refine blk_alloc ?_ _)); refine blk_far ?_ NB262_280.out _; (with_reducible repeat (first | refine blk_drewN ?_ _ | refine blk_drew ?_ | refine blk_alloc ?_ _)); refine blk_far ?_ NB262_280.out _; (with_reducible repeat (first | refine blk_drewN ?_ _ | refine blk_drew ?_ | refine blk_alloc ?_ _)); refine blk_far ?_ NB262_280.out _; first | exact BK262.out | ((with_reducible repeat (first | refine blk_drewN ?_ _ | refine blk_drew ?_ | refine blk_alloc ?_ _)); exact BK262.out)⟩
 have n5_ : Aside0 ((((w29.setCell ⟨gb280, 0, none⟩ (.int .i64 t275)).setCell ⟨gb280, 1, none⟩ (.int .i64 t276)).setCell ⟨gb280, 2, none⟩ (.slice Ao33 t277.length co33)).heap[gb280]? = some (.cells #[.int .i64 t275, .int .i64 t276, .slice Ao33 t277.length co33] 31 (0, 0))) := ⟨by (with_reducible repeat (first | refine blk_drewN ?_ _ | refine blk_drew ?_ | refine blk_alloc ?_ _)); refine blk_put (cs := #[.int .i64 t275, .int .i64 t276, .slice none 0 0]) ?_ 2 _ rfl; (with_reducible repeat (first | refine blk_drewN ?_ _ | refine blk_drew ?_ | refine blk_alloc ?_ _)); refine blk_put (cs := #[.int .i64 t275, .int .i64 0, .slice none 0 0]) ?_ 1 _ rfl; (with_reducible repeat (first | refine blk_drewN ?_ _ | refine blk_drew ?_ | refine blk_alloc ?_ _)); refine blk_put (cs := #[.int .i64 0, .int .i64 0, .slice none 0 0]) ?_ 0 _ rfl; first | exact BK280.out | ((with_reducible repeat (first | refine blk_drewN ?_ _ | refine blk_drew ?_ | refine blk_alloc ?_ _)); exact BK280.out)⟩
 have n6_ : Aside0 (Below w.heap.size w (((w29.setCell ⟨gb280, 0, none⟩ (.int .i64 t275)).setCell ⟨gb280, 1, none⟩ (.int .i64 t276)).setCell ⟨gb280, 2, none⟩ (.slice Ao33 t277.length co33))) := ⟨zi1⟩
 (try clear HO268)
 (try clear HO273)
 (try clear HO279)
 (try clear BK261)
 (try clear BK262)
 (try clear BK280)
 (try clear HB)
 generalize (((w29.setCell ⟨gb280, 0, none⟩ (.int .i64 t275)).setCell ⟨gb280, 1, none⟩ (.int .i64 t276)).setCell ⟨gb280, 2, none⟩ (.slice Ao33 t277.length co33)) = w34 at n0_ n1_ n2_ n3_ n4_ n5_ n6_ ⊢
 have HO268 := n0_
 have HO273 := n1_
 have HO279 := n2_
 have BK261 := n3_
 have BK262 := n4_
 have BK280 := n5_
 have HB := n6_
 clear n0_ n1_ n2_ n3_ n4_ n5_ n6_
 have n0_ := Aside0.mk (Kd.R_drew HO268.out)
 have n1_ := Aside0.mk (Kd.S_drew HO273.out)
 have n2_ := Aside0.mk (Kd.R_drew HO279.out)
 have n3_ := Aside0.mk (blk_drew BK261.out)
 have n4_ := Aside0.mk (blk_drew BK262.out)
 have n5_ := Aside0.mk (blk_drew BK280.out)
 have n6_ := Aside0.mk (below_drew1 HB.out)
 clear HO268
 clear HO273
 clear HO279
 clear BK261
 clear BK262
 clear BK280
 clear HB
 have HO268 := n0_
 have HO273 := n1_
 have HO279 := n2_
 have BK261 := n3_
 have BK262 := n4_
 have BK280 := n5_
 have HB := n6_
 clear n0_ n1_ n2_ n3_ n4_ n5_ n6_
 refine start_ (n := 9) (S := fun w' => w'.cell? ⟨gb280, 0, none⟩ = some (.int .i64 t275) ∧ w'.cell? ⟨gb280, 1, none⟩ = some (.int .i64 t276) ∧ w'.cell? ⟨gb280, 2, none⟩ = some (.slice Ao33 t277.length co33) ∧ w'.cell? ⟨gb262, 0, none⟩ = some (.int .i64 a1_0) ∧ w'.cell? ⟨gb262, 1, none⟩ = some (.int .i64 a1_1)) (ds := []) #[false, false, false, false, false, false, false, false, false] (by kernel_rfl) rfl rfl ⟨(blk_cell BK280.out 0).trans rfl, (blk_cell BK280.out 1).trans rfl, (blk_cell BK280.out 2).trans rfl, (blk_cell BK262.out 0).trans rfl, (blk_cell BK262.out 1).trans rfl⟩ (fun hHeld => ?_); refine with_tabW laws_FnExactForcedLeaps.tab7 laws_FnExactForcedLeaps.bits7 (fun HT_ HW_ => ?_)
 generalize w34.drew = w35 at HO268 HO273 HO279 BK261 BK262 BK280 HB hHeld ⊢
 refine take_ (i := 0) (N := some 32) (v := ?_) (a' := ?_) #[true, false, false, false, false, false, false, false, false] rfl rfl (take_ofW HT_.out HW_.out (by kernel_rfl)) (fun _ _ _ h => h) (Or.inl ⟨by rfl, ?_⟩) hHeld ?_ ?_
 rotate_left
 ·rintro w' ⟨s0, s1, s2, s3, s4⟩
  go_simp
  with_reducible rfl
 rotate_left
 ·simp only [Act.put, List.setIfInBounds_toArray, List.set_cons_zero, List.set_cons_succ, i64_w, i32_w]
  rfl
 refine take_ (i := 1) (N := some 33) (v := ?_) (a' := ?_) #[true, true, false, false, false, false, false, false, false] rfl rfl (take_ofW HT_.out HW_.out (by kernel_rfl)) (fun _ _ _ h => h) (Or.inl ⟨by rfl, ?_⟩) hHeld ?_ ?_
 rotate_left
 ·rintro w' ⟨s0, s1, s2, s3, s4⟩
  go_simp
  with_reducible rfl
 rotate_left
 ·simp only [Act.put, List.setIfInBounds_toArray, List.set_cons_zero, List.set_cons_succ, i64_w, i32_w]
  rfl
 refine one_ (i := 2) (N := some 34) #[true, true, true, false, false, false, false, false, false] rfl rfl (one_of HT_.out (by kernel_rfl)) (by decide) (fun K hK => ?_)
 refine goes_ Try.func10 (by kernel_rfl) rfl #[.agg #[.int .i64 a1_0, .int .i64 a1_1]] (by rfl) rfl rfl zi4 ?_
 with_reducible refine (laws_toLeaper.calls a1_0 a1_1 t281 t282 _ A14.out).mono ?_
 rintro e w36 ⟨rfl, hb⟩
 refine ⟨_, rfl, ?_⟩
 have n0_ := Aside0.mk (Kd.R_below zi13 hb)
 have n1_ := Aside0.mk (Kd.S_below zi20 hb)
 have n2_ := Aside0.mk (Kd.R_below zi23 hb)
 have n3_ := Aside0.mk (blk_below (g := gb261) (o := .cells #[.int .i64 a0_0, .int .i64 a0_1, .slice A0_2 l0_2.length c0_2] 24 (0, 0)) zi2 hb)
 have n4_ := Aside0.mk (blk_below (g := gb262) (o := .cells #[.int .i64 a1_0, .int .i64 a1_1] 26 (0, 0)) zi3 hb)
 have n5_ := Aside0.mk (blk_below (g := gb280) (o := .cells #[.int .i64 t275, .int .i64 t276, .slice Ao33 t277.length co33] 31 (0, 0)) zi6 hb)
 have n6_ := Aside0.mk (below_step zi1 hb)
 clear HO268
 clear HO273
 clear HO279
 clear BK261
 clear BK262
 clear BK280
 clear HB
 have HO268 := n0_
 have HO273 := n1_
 have HO279 := n2_
 have BK261 := n3_
 have BK262 := n4_
 have BK280 := n5_
 have HB := n6_
 clear n0_ n1_ n2_ n3_ n4_ n5_ n6_
 (try clear hb)
 (try clear hb2)
 (try clear hk)
 (try clear hi)
 (try clear hna_)
 (try clear hnb_)
 refine hK.out _ _ ⟨(blk_cell BK280.out 0).trans rfl, (blk_cell BK280.out 1).trans rfl, (blk_cell BK280.out 2).trans rfl, (blk_cell BK262.out 0).trans rfl, (blk_cell BK262.out 1).trans rfl⟩ (fun hHeld => ?_)
 clear hK K
 refine norm_ (a' := ?_) ?_ ?_
 rotate_left
 ·show Act.put _ (some 34) _ = _
  simp only [Act.put, List.setIfInBounds_toArray, List.set_cons_zero, List.set_cons_succ, i64_w, i32_w]
  rfl
 refine one_ (i := 3) (N := some 35) #[true, true, true, true, false, false, false, false, false] rfl rfl (one_of HT_.out (by kernel_rfl)) (by decide) (fun K hK => ?_)
 refine goes_ Try.func11 (by kernel_rfl) rfl #[.agg #[.int .i64 t275, .int .i64 t276, .slice Ao33 t277.length co33], .agg #[.int .i64 t281, .int .i64 t282]] (by rfl) rfl rfl zi4 ?_
 with_reducible refine (impl_ForcedLeaps.calls k t275 t276 _ _ t277 t281 t282 t283 t286 _ ?side1 ?side2 A15.out).mono ?_
 (case side1 => repeat (first | exact (Kd.R_reads' HO279.out).2.2 | (with_reducible refine Kd.C_alloc ?_ _) | (with_reducible refine Kd.C_drewN ?_ _) | (with_reducible refine Kd.C_drew ?_)))
 (case side2 => exact (Kd.R_reads' HO279.out).2.1)
 rintro e w37 ⟨v284, rfl, ho0, hb⟩
 refine ⟨_, rfl, ?_⟩
 obtain ⟨na315_, nb315_, hna_, hnb_⟩ := rng_of hb
 replace ho0 := rng_new ho0 hna_ hnb_
 have n0_ := Aside0.mk (Kd.R_below zi13 hb)
 have n1_ := Aside0.mk (Kd.S_elder' (Kd.S_mono (Kd.S_bound zi20) (fun k_ hk_ => (⟨hk_.1, rng_lt hna_ hk_.2.2.1⟩ : _ ∧ k_ ≠ (rngIn na315_ nb315_ k_)))) (Kd.S_base ho0) hb)
 have n2_ := Aside0.mk (Kd.R_below zi23 hb)
 have n3_ := Aside0.mk (Kd.S_lower (Kd.S_new' (Kd.S_new' (Kd.S_new' ho0 (Kd.R_lt zi13)) (Kd.S_lt zi20)) (Kd.R_lt zi23)) (below_size zi1))
 have n4_ := Aside0.mk (blk_below (g := gb261) (o := .cells #[.int .i64 a0_0, .int .i64 a0_1, .slice A0_2 l0_2.length c0_2] 24 (0, 0)) zi2 hb)
 have n5_ := Aside0.mk (blk_below (g := gb262) (o := .cells #[.int .i64 a1_0, .int .i64 a1_1] 26 (0, 0)) zi3 hb)
 have n6_ := Aside0.mk (blk_below (g := gb280) (o := .cells #[.int .i64 t275, .int .i64 t276, .slice Ao33 t277.length co33] 31 (0, 0)) zi6 hb)
 have n7_ := Aside0.mk ((Nat.le_of_eq hnb_.symm : nb315_ ≤ w37.heap.size))
 have n8_ := Aside0.mk (below_step zi1 hb)
 clear HO268
 clear HO273
 clear HO279
 clear BK261
 clear BK262
 clear BK280
 clear HB
 have HO268 := n0_
 have HO273 := n1_
 have HO279 := n2_
 have HO285 := n3_
 have BK261 := n4_
 have BK262 := n5_
 have BK280 := n6_
 have HNB315 := n7_
 have HB := n8_
 clear n0_ n1_ n2_ n3_ n4_ n5_ n6_ n7_ n8_
 (try clear hb)
 (try clear hb2)
 (try clear hk)
 (try clear hi)
 (try clear ho0)
 (try clear hna_)
 (try clear hnb_)
 refine hK.out _ _ ⟨(blk_cell BK280.out 0).trans rfl, (blk_cell BK280.out 1).trans rfl, (blk_cell BK280.out 2).trans rfl, (blk_cell BK262.out 0).trans rfl, (blk_cell BK262.out 1).trans rfl⟩ (fun hHeld => ?_)
 clear hK K
 refine norm_ (a' := ?_) ?_ ?_
 rotate_left
 ·show Act.put _ (some 35) _ = _
  simp only [Act.put, List.setIfInBounds_toArray, List.set_cons_zero, List.set_cons_succ, i64_w, i32_w]
  rfl
 refine pure_ (i := 4) (N := some 31) (v := ?_) (a' := ?_) #[true, true, true, true, true, false, false, false, false] rfl rfl (any_of HT_.out (by kernel_rfl)) (fun _ _ _ h => h) (Or.inl ⟨by rfl, ?_⟩) ?_ ?_
 rotate_left
 ·intro w'
  go_simp
  with_reducible rfl
 rotate_left
 ·simp only [Act.put, List.setIfInBounds_toArray, List.set_cons_zero, List.set_cons_succ, i64_w, i32_w]
  rfl
 refine pure_ (i := 5) (N := some 36) (v := ?_) (a' := ?_) #[true, true, true, true, true, true, false, false, false] rfl rfl (any_of HT_.out (by kernel_rfl)) (fun _ _ _ h => h) (Or.inl ⟨by rfl, ?_⟩) ?_ ?_
 rotate_left
 ·intro w'
  go_simp
  with_reducible rfl
 rotate_left
 ·simp only [Act.put, List.setIfInBounds_toArray, List.set_cons_zero, List.set_cons_succ, i64_w, i32_w]
  rfl
 refine pure_ (i := 6) (N := some 37) (v := ?_) (a' := ?_) #[true, true, true, true, true, true, true, false, false] rfl rfl (any_of HT_.out (by kernel_rfl)) (fun _ _ _ h => h) (Or.inl ⟨by rfl, ?_⟩) ?_ ?_
 rotate_left
 ·intro w'
  go_simp
  with_reducible rfl
 rotate_left
 ·simp only [Act.put, List.setIfInBounds_toArray, List.set_cons_zero, List.set_cons_succ, i64_w, i32_w]
  rfl
 refine pure_ (i := 7) (N := some 9) (v := ?_) (a' := ?_) #[true, true, true, true, true, true, true, true, false] rfl rfl (any_of HT_.out (by kernel_rfl)) (fun _ _ _ h => h) (Or.inl ⟨by rfl, ?_⟩) ?_ ?_
 rotate_left
 ·intro w'
  go_simp
  with_reducible rfl
 rotate_left
 ·simp only [Act.put, List.setIfInBounds_toArray, List.set_cons_zero, List.set_cons_succ, i64_w, i32_w]
  rfl
 refine pure_ (i := 8) (N := some 10) (v := ?_) (a' := ?_) #[true, true, true, true, true, true, true, true, true] rfl rfl (any_of HT_.out (by kernel_rfl)) (fun _ _ _ h => h) (Or.inl ⟨by rfl, ?_⟩) ?_ ?_
 rotate_left
 ·intro w'
  go_simp
  with_reducible rfl
 rotate_left
 ·simp only [Act.put, List.setIfInBounds_toArray, List.set_cons_zero, List.set_cons_succ, i64_w, i32_w]
  rfl
 refine done_ (done_of HT_.out (by kernel_rfl)) ?_
 go_upto_region 8 with (fail)
 go_cut [46] (fun v46 wc => ∃ (kq : Nat) (x46_15 : Bool), v46 = .bool x46_15 ∧ Aside0 (laws_FnExactForcedLeaps.j0 kq t271 t274 t283 t286 x46_15 a0_0 a0_1 l0_2 a1_0 a1_1 t275 t276 t277 = some r) ∧ Aside0 (kq ≤ k) ∧ Aside0 (Kd.S (Kd.slice 3 (Kd.int .i64)) 22 wc w.heap.size (fun k_ => some k_ ≠ (v284 : Value).ownBlock ∧ some k_ ≠ ((.slice Ao33 t277.length co33) : Value).ownBlock ∧ k_ ≠ (rngIn na315_ nb315_ k_)) v272 t271) ∧ Aside0 (Kd.S (Kd.slice 3 (Kd.int .i64)) 22 wc w.heap.size (fun k_ => some k_ ≠ (v272 : Value).ownBlock ∧ some k_ ≠ ((.slice Ao33 t277.length co33) : Value).ownBlock ∧ k_ ≠ (rngOut na315_ nb315_ k_)) v284 t283) ∧ Aside0 (Kd.R (Kd.int .i64) 3 wc w.heap.size (fun _ => True) (.slice Ao33 t277.length co33) t277) ∧ Aside0 (wc.heap[gb261]? = some (.cells #[.int .i64 a0_0, .int .i64 a0_1, (.slice A0_2 l0_2.length c0_2)] 24 (0, 0))) ∧ Aside0 (wc.heap[gb262]? = some (.cells #[.int .i64 a1_0, .int .i64 a1_1] 26 (0, 0))) ∧ Aside0 (wc.heap[gb280]? = some (.cells #[.int .i64 t275, .int .i64 t276, (.slice Ao33 t277.length co33)] 31 (0, 0))) ∧ Aside0 (nb315_ ≤ wc.heap.size) ∧ Aside0 (Below w.heap.size w wc))
 case first =>
  have H := HC16.out
  clear HC16
  replace H := Option.bind_eq_some_iff.mp H
  obtain ⟨t287, A380, H⟩ := H
  replace H : (if t287 = true then (laws_FnExactForcedLeaps.j0 k t271 t274 t283 t286 (t286 != t274) a0_0 a0_1 l0_2 a1_0 a1_1 t275 t276 t277) else (laws_FnExactForcedLeaps.j0 k t271 t274 t283 t286 true a0_0 a0_1 l0_2 a1_0 a1_1 t275 t276 t277)) = some r := H
  have A38 := Aside0.mk A380
  clear A380
  by_cases c39 : t287 = true
  ·subst c39
   have H1 : (laws_FnExactForcedLeaps.j0 k t271 t274 t283 t286 (t286 != t274) a0_0 a0_1 l0_2 a1_0 a1_1 t275 t276 t277) = some r := by rw [if_pos rfl] at H; exact H
   clear H
   have H := H1
   clear H1
   have H' := Aside0.mk H
   clear H
   obtain ⟨Ao40, co40, eo40⟩ := Kd.S_slice HO285.out
   subst eo40
   obtain ⟨Ao41, co41, eo41⟩ := Kd.S_slice HO273.out
   subst eo41
   go_wp2_with (first | ((with_reducible refine gate_callee (f := 12) rfl ?_); refine goesL_ (some 40) rfl rfl Try.func12 (by kernel_rfl) rfl #[.slice Ao40 t283.length co40, .slice Ao41 t271.length co41] rfl zi4 ?_; (with_reducible refine (laws_eqIntSS.calls k _ _ t283 _ _ t271 true _ ?side1 ?side2 ?side3 ?side4 A38.out).mono ?_); (case side1 => exact zi34); (case side2 => exact (Kd.S_reads' HO285.out).2.1); (case side3 => exact zi35); (case side4 => exact (Kd.S_reads' HO273.out).2.1); rintro e w' ⟨rfl, ⟨nd, rfl⟩⟩; refine ⟨_, rfl, ?_⟩))
   go_meet
   case rel => exact ⟨_, ((t286 != t274)), zi25, H', ⟨by first | omega | exact Nat.le_refl _⟩, ⟨zi32⟩, ⟨zi31⟩, ⟨zi40⟩, ⟨zi2⟩, ⟨zi3⟩, ⟨zi6⟩, ⟨zi17⟩, ⟨zi1⟩⟩
  replace c39 := Bool.eq_false_iff.mpr c39
  subst c39
  have H1 : (laws_FnExactForcedLeaps.j0 k t271 t274 t283 t286 true a0_0 a0_1 l0_2 a1_0 a1_1 t275 t276 t277) = some r := by rw [if_neg (show ¬ (false = true) by decide)] at H; exact H
  clear H
  have H := H1
  clear H1
  have H' := Aside0.mk H
  clear H
  obtain ⟨Ao42, co42, eo42⟩ := Kd.S_slice HO285.out
  subst eo42
  obtain ⟨Ao43, co43, eo43⟩ := Kd.S_slice HO273.out
  subst eo43
  go_wp2_with (first | ((with_reducible refine gate_callee (f := 12) rfl ?_); refine goesL_ (some 40) rfl rfl Try.func12 (by kernel_rfl) rfl #[.slice Ao42 t283.length co42, .slice Ao43 t271.length co43] rfl zi4 ?_; (with_reducible refine (laws_eqIntSS.calls k _ _ t283 _ _ t271 false _ ?side1 ?side2 ?side3 ?side4 A38.out).mono ?_); (case side1 => exact zi34); (case side2 => exact (Kd.S_reads' HO285.out).2.1); (case side3 => exact zi35); (case side4 => exact (Kd.S_reads' HO273.out).2.1); rintro e w' ⟨rfl, ⟨nd, rfl⟩⟩; refine ⟨_, rfl, ?_⟩))
  go_meet
  case rel => exact ⟨_, (true), zi25, H', ⟨by first | omega | exact Nat.le_refl _⟩, ⟨zi32⟩, ⟨zi31⟩, ⟨zi40⟩, ⟨zi2⟩, ⟨zi3⟩, ⟨zi6⟩, ⟨zi17⟩, ⟨zi1⟩⟩
 case rest =>
  clear HC16
  try clear c1; try clear p2; try clear c3; try clear c4; try clear c4b0; try clear c7; try clear c8; try clear c9; try clear c10; try clear c11; try clear c12; try clear c19; try clear c30; try clear c31; try clear c39; try clear hcz20_0; try clear hcz20_1; try clear hcz20_2; try clear hcz27_0; try clear hcz27_1; try clear hcz27_2; try clear hcz32_0; try clear hcz32_1; try clear hcz32_2; try clear hcz8_0; try clear hcz8_1; try clear hcz8_2; try clear hfz20_0; try clear hfz20_1; try clear hfz20_2; try clear hfz27_0; try clear hfz27_1; try clear hfz27_2; try clear hfz32_0; try clear hfz32_1; try clear hfz32_2
  try clear hfz8_0; try clear hfz8_1; try clear hfz8_2
  obtain ⟨kq, x46_15, rfl, HA, HJ15, HO_6, HO_9, HO_281002, BK261, BK262, BK280, HNB315, HB⟩ := hcut
  cases kq with
  | zero => exact absurd HA.out (by simp [laws_FnExactForcedLeaps.j0])
  | succ kj15 =>
   have H := HA.out
   clear HA
   simp only [laws_FnExactForcedLeaps.j0] at H
   by_cases c44 : x46_15 = true
   ·subst c44
    have H1 : (some false) = some r := by rw [if_pos rfl] at H; exact H
    clear H
    have H := H1
    clear H1
    obtain rfl := Option.some.inj H
    go_wp2
    go_ret
    exact ⟨zi12, zi1⟩
   replace c44 := Bool.eq_false_iff.mpr c44
   subst c44
   have H1 : ((laws_toBoard.f kj15 a0_0 a0_1 l0_2).bind fun bt288 => ((laws_eqBoard.f kj15 t275 t276 t277 bt288.1 bt288.2.1 bt288.2.2).bind fun t293 => (if t293 = true then ((laws_markBoard.f kj15 t275 t276 t277 1).bind fun bt294 => (if bt294.1 < 0 then (laws_FnExactForcedLeaps.j1 kj15 t271 t274 t283 true a0_0 a0_1 l0_2 a1_0 a1_1) else ((laws_eqIntSS.f kj15 t283 t271).bind fun t296 => (if t296 = true then (laws_FnExactForcedLeaps.j1 kj15 t271 t274 t283 (t286 != t274) a0_0 a0_1 l0_2 a1_0 a1_1) else (laws_FnExactForcedLeaps.j1 kj15 t271 t274 t283 true a0_0 a0_1 l0_2 a1_0 a1_1))))) else (some false)))) = some r := by rw [if_neg (show ¬ (false = true) by decide)] at H; exact H
   clear H
   have H := H1
   clear H1
   replace H := Option.bind_eq_some_iff.mp H
   obtain ⟨⟨t288, t289, t290⟩, A450, H⟩ := H
   replace H : ((laws_eqBoard.f kj15 t275 t276 t277 t288 t289 t290).bind fun t293 => (if t293 = true then ((laws_markBoard.f kj15 t275 t276 t277 1).bind fun bt294 => (if bt294.1 < 0 then (laws_FnExactForcedLeaps.j1 kj15 t271 t274 t283 true a0_0 a0_1 l0_2 a1_0 a1_1) else ((laws_eqIntSS.f kj15 t283 t271).bind fun t296 => (if t296 = true then (laws_FnExactForcedLeaps.j1 kj15 t271 t274 t283 (t286 != t274) a0_0 a0_1 l0_2 a1_0 a1_1) else (laws_FnExactForcedLeaps.j1 kj15 t271 t274 t283 true a0_0 a0_1 l0_2 a1_0 a1_1))))) else (some false))) = some r := H
   have A45 := Aside0.mk A450
   clear A450
   replace H := Option.bind_eq_some_iff.mp H
   obtain ⟨t293, A460, H⟩ := H
   replace H : (if t293 = true then ((laws_markBoard.f kj15 t275 t276 t277 1).bind fun bt294 => (if bt294.1 < 0 then (laws_FnExactForcedLeaps.j1 kj15 t271 t274 t283 true a0_0 a0_1 l0_2 a1_0 a1_1) else ((laws_eqIntSS.f kj15 t283 t271).bind fun t296 => (if t296 = true then (laws_FnExactForcedLeaps.j1 kj15 t271 t274 t283 (t286 != t274) a0_0 a0_1 l0_2 a1_0 a1_1) else (laws_FnExactForcedLeaps.j1 kj15 t271 t274 t283 true a0_0 a0_1 l0_2 a1_0 a1_1))))) else (some false)) = some r := H
   have A46 := Aside0.mk A460
   clear A460
   by_cases c47 : t293 = true
   rotate_left
   ·replace c47 := Bool.eq_false_iff.mpr c47
    subst c47
    have H1 : (some false) = some r := by rw [if_neg (show ¬ (false = true) by decide)] at H; exact H
    clear H
    have H := H1
    clear H1
    obtain rfl := Option.some.inj H
    try go_wp2
    have n0_ := Aside0.mk (Kd.S_drew HO_6.out)
    have n1_ := Aside0.mk (Kd.S_drew HO_9.out)
    have n2_ := Aside0.mk (Kd.R_drew HO_281002.out)
    have n3_ := Aside0.mk (blk_drew BK261.out)
    have n4_ := Aside0.mk (blk_drew BK262.out)
    have n5_ := Aside0.mk (blk_drew BK280.out)
    have n6_ := Aside0.mk (below_drew1 HB.out)
    have n7_ := Aside0.mk (show nb315_ ≤ (wc.drew).heap.size from zi17)
    clear HO_6
    clear HO_9
    clear HO_281002
    clear BK261
    clear BK262
    clear BK280
    clear HB
    clear HNB315
    have HO_6 := n0_
    have HO_9 := n1_
    have HO_281002 := n2_
    have BK261 := n3_
    have BK262 := n4_
    have BK280 := n5_
    have HB := n6_
    have HNB315 := n7_
    clear n0_ n1_ n2_ n3_ n4_ n5_ n6_ n7_
    refine start_ (n := 5) (S := fun w' => w'.cell? ⟨gb280, 0, none⟩ = some (.int .i64 t275) ∧ w'.cell? ⟨gb280, 1, none⟩ = some (.int .i64 t276) ∧ w'.cell? ⟨gb280, 2, none⟩ = some (.slice Ao33 t277.length co33) ∧ w'.cell? ⟨gb261, 0, none⟩ = some (.int .i64 a0_0) ∧ w'.cell? ⟨gb261, 1, none⟩ = some (.int .i64 a0_1) ∧ w'.cell? ⟨gb261, 2, none⟩ = some (.slice A0_2 l0_2.length c0_2)) (ds := []) #[false, false, false, false, false] (by kernel_rfl) rfl rfl ⟨(blk_cell BK280.out 0).trans rfl, (blk_cell BK280.out 1).trans rfl, (blk_cell BK280.out 2).trans rfl, (blk_cell BK261.out 0).trans rfl, (blk_cell BK261.out 1).trans rfl, (blk_cell BK261.out 2).trans rfl⟩ (fun hHeld => ?_)
    generalize wc.drew = w95 at HO_6 HO_9 HO_281002 BK261 BK262 BK280 HNB315 HB hHeld ⊢
    refine take_ (i := 0) (N := some 47) (v := ?_) (a' := ?_) #[true, false, false, false, false] rfl rfl (by kernel_rfl) (fun _ _ _ h => h) (Or.inl ⟨by rfl, ?_⟩) hHeld ?_ ?_
    rotate_left
    ·rintro w' ⟨s0, s1, s2, s3, s4, s5⟩
     go_simp
     with_reducible rfl
    rotate_left
    ·simp only [Act.put, List.setIfInBounds_toArray, List.set_cons_zero, List.set_cons_succ, i64_w, i32_w]
     rfl
    refine take_ (i := 1) (N := some 48) (v := ?_) (a' := ?_) #[true, true, false, false, false] rfl rfl (by kernel_rfl) (fun _ _ _ h => h) (Or.inl ⟨by rfl, ?_⟩) hHeld ?_ ?_
    rotate_left
    ·rintro w' ⟨s0, s1, s2, s3, s4, s5⟩
     go_simp
     with_reducible rfl
    rotate_left
    ·simp only [Act.put, List.setIfInBounds_toArray, List.set_cons_zero, List.set_cons_succ, i64_w, i32_w]
     rfl
    refine one_ (i := 2) (N := some 49) #[true, true, true, false, false] rfl rfl (by kernel_rfl) (by decide) (fun K hK => ?_)
    refine goes_ Try.func9 (by kernel_rfl) rfl #[.agg #[.int .i64 a0_0, .int .i64 a0_1, .slice A0_2 l0_2.length c0_2]] (by rfl) rfl rfl zi4 ?_
    with_reducible refine (laws_toBoard.calls kj15 a0_0 a0_1 _ _ l0_2 t288 t289 t290 _ ?side1 ?side2 A45.out).mono ?_
    (case side1 => exact zi11)
    (case side2 => exact HC0_2.out)
    rintro e w96 ⟨v291, rfl, ho0, hb⟩
    refine ⟨_, rfl, ?_⟩
    have n0_ := Aside0.mk (Kd.S_elder' zi15 (Kd.R_base ho0) hb)
    have n1_ := Aside0.mk (Kd.S_elder' zi10 (Kd.R_base ho0) hb)
    have n2_ := Aside0.mk (Kd.R_elder' zi8 (Kd.R_base ho0) hb)
    have n3_ := Aside0.mk (Kd.R_lower (Kd.R_new' ho0 (Kd.R_lt zi8)) (below_size zi1))
    have n4_ := Aside0.mk (blk_below (g := gb261) (o := .cells #[.int .i64 a0_0, .int .i64 a0_1, .slice A0_2 l0_2.length c0_2] 24 (0, 0)) zi2 hb)
    have n5_ := Aside0.mk (blk_below (g := gb262) (o := .cells #[.int .i64 a1_0, .int .i64 a1_1] 26 (0, 0)) zi3 hb)
    have n6_ := Aside0.mk (blk_below (g := gb280) (o := .cells #[.int .i64 t275, .int .i64 t276, .slice Ao33 t277.length co33] 31 (0, 0)) zi6 hb)
    have n7_ := Aside0.mk (below_step zi1 hb)
    have n8_ := Aside0.mk (show nb315_ ≤ w96.heap.size from zi5)
    clear HO_6
    clear HO_9
    clear HO_281002
    clear BK261
    clear BK262
    clear BK280
    clear HB
    clear HNB315
    have HO_6 := n0_
    have HO_9 := n1_
    have HO_281002 := n2_
    have HO292 := n3_
    have BK261 := n4_
    have BK262 := n5_
    have BK280 := n6_
    have HB := n7_
    have HNB315 := n8_
    clear n0_ n1_ n2_ n3_ n4_ n5_ n6_ n7_ n8_
    (try clear hb)
    (try clear hb2)
    (try clear hk)
    (try clear hi)
    (try clear ho0)
    (try clear hna_)
    (try clear hnb_)
    obtain ⟨Ao97, co97, eo97⟩ := Kd.R_slice HO292.out
    (first | subst eo97 | (injection eo97 with f1_ f2_ f3_; have f4_ := f1_.symm; have f5_ := f3_.symm; clear f1_ f2_ f3_; subst f4_; subst f5_))
    refine hK.out _ _ ⟨(blk_cell BK280.out 0).trans rfl, (blk_cell BK280.out 1).trans rfl, (blk_cell BK280.out 2).trans rfl, (blk_cell BK261.out 0).trans rfl, (blk_cell BK261.out 1).trans rfl, (blk_cell BK261.out 2).trans rfl⟩ (fun hHeld => ?_)
    clear hK K
    refine norm_ (a' := ?_) ?_ ?_
    rotate_left
    ·show Act.put _ (some 49) _ = _
     simp only [Act.put, List.setIfInBounds_toArray, List.set_cons_zero, List.set_cons_succ, i64_w, i32_w]
     rfl
    refine one_ (i := 3) (N := some 50) #[true, true, true, true, false] rfl rfl (by kernel_rfl) (by decide) (fun K hK => ?_)
    refine goes_ Try.func13 (by kernel_rfl) rfl #[.agg #[.int .i64 t275, .int .i64 t276, .slice Ao33 t277.length co33], .agg #[.int .i64 t288, .int .i64 t289, .slice Ao97 t290.length co97]] (by rfl) rfl rfl zi4 ?_
    with_reducible refine (laws_eqBoard.calls kj15 t275 t276 _ _ t277 t288 t289 _ _ t290 false _ ?side1 ?side2 ?side3 ?side4 A46.out).mono ?_
    (case side1 => exact zi30)
    (case side2 => exact (Kd.R_reads' HO_281002.out).2.1)
    (case side3 => exact zi36)
    (case side4 => exact (Kd.R_reads' HO292.out).2.1)
    rintro e w98 ⟨rfl, hb⟩
    refine ⟨_, rfl, ?_⟩
    have n0_ := Aside0.mk (Kd.S_below zi15 hb)
    have n1_ := Aside0.mk (Kd.S_below zi10 hb)
    have n2_ := Aside0.mk (Kd.R_below zi8 hb)
    have n3_ := Aside0.mk (Kd.R_below (by first | exact HO292.out | ((with_reducible repeat (first | apply Kd.R_alloc | apply Kd.R_drewN | apply Kd.R_drew)); exact HO292.out)) hb)
    have n4_ := Aside0.mk (blk_below (g := gb261) (o := .cells #[.int .i64 a0_0, .int .i64 a0_1, .slice A0_2 l0_2.length c0_2] 24 (0, 0)) zi2 hb)
    have n5_ := Aside0.mk (blk_below (g := gb262) (o := .cells #[.int .i64 a1_0, .int .i64 a1_1] 26 (0, 0)) zi3 hb)
    have n6_ := Aside0.mk (blk_below (g := gb280) (o := .cells #[.int .i64 t275, .int .i64 t276, .slice Ao33 t277.length co33] 31 (0, 0)) zi6 hb)
    have n7_ := Aside0.mk (below_step zi1 hb)
    have n8_ := Aside0.mk (show nb315_ ≤ w98.heap.size from zi5)
    clear HO_6
    clear HO_9
    clear HO_281002
    clear HO292
    clear BK261
    clear BK262
    clear BK280
    clear HB
    clear HNB315
    have HO_6 := n0_
    have HO_9 := n1_
    have HO_281002 := n2_
    have HO292 := n3_
    have BK261 := n4_
    have BK262 := n5_
    have BK280 := n6_
    have HB := n7_
    have HNB315 := n8_
    clear n0_ n1_ n2_ n3_ n4_ n5_ n6_ n7_ n8_
    (try clear hb)
    (try clear hb2)
    (try clear hk)
    (try clear hi)
    (try clear hna_)
    (try clear hnb_)
    refine hK.out _ _ ⟨(blk_cell BK280.out 0).trans rfl, (blk_cell BK280.out 1).trans rfl, (blk_cell BK280.out 2).trans rfl, (blk_cell BK261.out 0).trans rfl, (blk_cell BK261.out 1).trans rfl, (blk_cell BK261.out 2).trans rfl⟩ (fun hHeld => ?_)
    clear hK K
    refine norm_ (a' := ?_) ?_ ?_
    rotate_left
    ·show Act.put _ (some 50) _ = _
     simp only [Act.put, List.setIfInBounds_toArray, List.set_cons_zero, List.set_cons_succ, i64_w, i32_w]
     rfl
    refine pure_ (i := 4) (N := some 51) (v := ?_) (a' := ?_) #[true, true, true, true, true] rfl rfl (by kernel_rfl) (fun _ _ _ h => h) (Or.inl ⟨by rfl, ?_⟩) ?_ ?_
    rotate_left
    ·intro w'
     go_simp
     with_reducible rfl
    rotate_left
    ·simp only [Act.put, List.setIfInBounds_toArray, List.set_cons_zero, List.set_cons_succ, i64_w, i32_w]
     rfl
    refine done_ (by kernel_rfl) ?_
    try go_wp2
    go_ret
    exact ⟨zi12, zi1⟩
   subst c47
   have H1 : ((laws_markBoard.f kj15 t275 t276 t277 1).bind fun bt294 => (if bt294.1 < 0 then (laws_FnExactForcedLeaps.j1 kj15 t271 t274 t283 true a0_0 a0_1 l0_2 a1_0 a1_1) else ((laws_eqIntSS.f kj15 t283 t271).bind fun t296 => (if t296 = true then (laws_FnExactForcedLeaps.j1 kj15 t271 t274 t283 (t286 != t274) a0_0 a0_1 l0_2 a1_0 a1_1) else (laws_FnExactForcedLeaps.j1 kj15 t271 t274 t283 true a0_0 a0_1 l0_2 a1_0 a1_1))))) = some r := by rw [if_pos rfl] at H; exact H
   clear H
   have H := H1
   clear H1
   replace H := Option.bind_eq_some_iff.mp H
   obtain ⟨⟨t294, t295⟩, A480, H⟩ := H
   replace H : (if t294 < 0 then (laws_FnExactForcedLeaps.j1 kj15 t271 t274 t283 true a0_0 a0_1 l0_2 a1_0 a1_1) else ((laws_eqIntSS.f kj15 t283 t271).bind fun t296 => (if t296 = true then (laws_FnExactForcedLeaps.j1 kj15 t271 t274 t283 (t286 != t274) a0_0 a0_1 l0_2 a1_0 a1_1) else (laws_FnExactForcedLeaps.j1 kj15 t271 t274 t283 true a0_0 a0_1 l0_2 a1_0 a1_1)))) = some r := H
   have A48 := Aside0.mk A480
   clear A480
   have HC49 := Aside0.mk H
   clear H
   try go_wp2
   have n0_ := Aside0.mk (Kd.S_drew HO_6.out)
   have n1_ := Aside0.mk (Kd.S_drew HO_9.out)
   have n2_ := Aside0.mk (Kd.R_drew HO_281002.out)
   have n3_ := Aside0.mk (blk_drew BK261.out)
   have n4_ := Aside0.mk (blk_drew BK262.out)
   have n5_ := Aside0.mk (blk_drew BK280.out)
   have n6_ := Aside0.mk (below_drew1 HB.out)
   have n7_ := Aside0.mk (show nb315_ ≤ (wc.drew).heap.size from zi17)
   clear HO_6
   clear HO_9
   clear HO_281002
   clear BK261
   clear BK262
   clear BK280
   clear HB
   clear HNB315
   have HO_6 := n0_
   have HO_9 := n1_
   have HO_281002 := n2_
   have BK261 := n3_
   have BK262 := n4_
   have BK280 := n5_
   have HB := n6_
   have HNB315 := n7_
   clear n0_ n1_ n2_ n3_ n4_ n5_ n6_ n7_
   refine start_ (n := 5) (S := fun w' => w'.cell? ⟨gb280, 0, none⟩ = some (.int .i64 t275) ∧ w'.cell? ⟨gb280, 1, none⟩ = some (.int .i64 t276) ∧ w'.cell? ⟨gb280, 2, none⟩ = some (.slice Ao33 t277.length co33) ∧ w'.cell? ⟨gb261, 0, none⟩ = some (.int .i64 a0_0) ∧ w'.cell? ⟨gb261, 1, none⟩ = some (.int .i64 a0_1) ∧ w'.cell? ⟨gb261, 2, none⟩ = some (.slice A0_2 l0_2.length c0_2)) (ds := []) #[false, false, false, false, false] (by kernel_rfl) rfl rfl ⟨(blk_cell BK280.out 0).trans rfl, (blk_cell BK280.out 1).trans rfl, (blk_cell BK280.out 2).trans rfl, (blk_cell BK261.out 0).trans rfl, (blk_cell BK261.out 1).trans rfl, (blk_cell BK261.out 2).trans rfl⟩ (fun hHeld => ?_)
   generalize wc.drew = w50 at HO_6 HO_9 HO_281002 BK261 BK262 BK280 HNB315 HB hHeld ⊢
   refine take_ (i := 0) (N := some 47) (v := ?_) (a' := ?_) #[true, false, false, false, false] rfl rfl (by kernel_rfl) (fun _ _ _ h => h) (Or.inl ⟨by rfl, ?_⟩) hHeld ?_ ?_
   rotate_left
   ·rintro w' ⟨s0, s1, s2, s3, s4, s5⟩
    go_simp
    with_reducible rfl
   rotate_left
   ·simp only [Act.put, List.setIfInBounds_toArray, List.set_cons_zero, List.set_cons_succ, i64_w, i32_w]
    rfl
   refine take_ (i := 1) (N := some 48) (v := ?_) (a' := ?_) #[true, true, false, false, false] rfl rfl (by kernel_rfl) (fun _ _ _ h => h) (Or.inl ⟨by rfl, ?_⟩) hHeld ?_ ?_
   rotate_left
   ·rintro w' ⟨s0, s1, s2, s3, s4, s5⟩
    go_simp
    with_reducible rfl
   rotate_left
   ·simp only [Act.put, List.setIfInBounds_toArray, List.set_cons_zero, List.set_cons_succ, i64_w, i32_w]
    rfl
   refine one_ (i := 2) (N := some 49) #[true, true, true, false, false] rfl rfl (by kernel_rfl) (by decide) (fun K hK => ?_)
   refine goes_ Try.func9 (by kernel_rfl) rfl #[.agg #[.int .i64 a0_0, .int .i64 a0_1, .slice A0_2 l0_2.length c0_2]] (by rfl) rfl rfl zi4 ?_
   with_reducible refine (laws_toBoard.calls kj15 a0_0 a0_1 _ _ l0_2 t288 t289 t290 _ ?side1 ?side2 A45.out).mono ?_
   (case side1 => exact zi11)
   (case side2 => exact HC0_2.out)
   rintro e w51 ⟨v291, rfl, ho0, hb⟩
   refine ⟨_, rfl, ?_⟩
   have n0_ := Aside0.mk (Kd.S_elder' zi15 (Kd.R_base ho0) hb)
   have n1_ := Aside0.mk (Kd.S_elder' zi10 (Kd.R_base ho0) hb)
   have n2_ := Aside0.mk (Kd.R_elder' zi8 (Kd.R_base ho0) hb)
   have n3_ := Aside0.mk (Kd.R_lower (Kd.R_new' ho0 (Kd.R_lt zi8)) (below_size zi1))
   have n4_ := Aside0.mk (blk_below (g := gb261) (o := .cells #[.int .i64 a0_0, .int .i64 a0_1, .slice A0_2 l0_2.length c0_2] 24 (0, 0)) zi2 hb)
   have n5_ := Aside0.mk (blk_below (g := gb262) (o := .cells #[.int .i64 a1_0, .int .i64 a1_1] 26 (0, 0)) zi3 hb)
   have n6_ := Aside0.mk (blk_below (g := gb280) (o := .cells #[.int .i64 t275, .int .i64 t276, .slice Ao33 t277.length co33] 31 (0, 0)) zi6 hb)
   have n7_ := Aside0.mk (below_step zi1 hb)
   have n8_ := Aside0.mk (show nb315_ ≤ w51.heap.size from zi5)
   clear HO_6
   clear HO_9
   clear HO_281002
   clear BK261
   clear BK262
   clear BK280
   clear HB
   clear HNB315
   have HO_6 := n0_
   have HO_9 := n1_
   have HO_281002 := n2_
   have HO292 := n3_
   have BK261 := n4_
   have BK262 := n5_
   have BK280 := n6_
   have HB := n7_
   have HNB315 := n8_
   clear n0_ n1_ n2_ n3_ n4_ n5_ n6_ n7_ n8_
   (try clear hb)
   (try clear hb2)
   (try clear hk)
   (try clear hi)
   (try clear ho0)
   (try clear hna_)
   (try clear hnb_)
   obtain ⟨Ao52, co52, eo52⟩ := Kd.R_slice HO292.out
   (first | subst eo52 | (injection eo52 with f1_ f2_ f3_; have f4_ := f1_.symm; have f5_ := f3_.symm; clear f1_ f2_ f3_; subst f4_; subst f5_))
   refine hK.out _ _ ⟨(blk_cell BK280.out 0).trans rfl, (blk_cell BK280.out 1).trans rfl, (blk_cell BK280.out 2).trans rfl, (blk_cell BK261.out 0).trans rfl, (blk_cell BK261.out 1).trans rfl, (blk_cell BK261.out 2).trans rfl⟩ (fun hHeld => ?_)
   clear hK K
   refine norm_ (a' := ?_) ?_ ?_
   rotate_left
   ·show Act.put _ (some 49) _ = _
    simp only [Act.put, List.setIfInBounds_toArray, List.set_cons_zero, List.set_cons_succ, i64_w, i32_w]
    rfl
   refine one_ (i := 3) (N := some 50) #[true, true, true, true, false] rfl rfl (by kernel_rfl) (by decide) (fun K hK => ?_)
   refine goes_ Try.func13 (by kernel_rfl) rfl #[.agg #[.int .i64 t275, .int .i64 t276, .slice Ao33 t277.length co33], .agg #[.int .i64 t288, .int .i64 t289, .slice Ao52 t290.length co52]] (by rfl) rfl rfl zi4 ?_
   with_reducible refine (laws_eqBoard.calls kj15 t275 t276 _ _ t277 t288 t289 _ _ t290 true _ ?side1 ?side2 ?side3 ?side4 A46.out).mono ?_
   (case side1 => exact zi30)
   (case side2 => exact (Kd.R_reads' HO_281002.out).2.1)
   (case side3 => exact zi36)
   (case side4 => exact (Kd.R_reads' HO292.out).2.1)
   rintro e w53 ⟨rfl, hb⟩
   refine ⟨_, rfl, ?_⟩
   have n0_ := Aside0.mk (Kd.S_below zi15 hb)
   have n1_ := Aside0.mk (Kd.S_below zi10 hb)
   have n2_ := Aside0.mk (Kd.R_below zi8 hb)
   have n3_ := Aside0.mk (Kd.R_below (by first | exact HO292.out | ((with_reducible repeat (first | apply Kd.R_alloc | apply Kd.R_drewN | apply Kd.R_drew)); exact HO292.out)) hb)
   have n4_ := Aside0.mk (blk_below (g := gb261) (o := .cells #[.int .i64 a0_0, .int .i64 a0_1, .slice A0_2 l0_2.length c0_2] 24 (0, 0)) zi2 hb)
   have n5_ := Aside0.mk (blk_below (g := gb262) (o := .cells #[.int .i64 a1_0, .int .i64 a1_1] 26 (0, 0)) zi3 hb)
   have n6_ := Aside0.mk (blk_below (g := gb280) (o := .cells #[.int .i64 t275, .int .i64 t276, .slice Ao33 t277.length co33] 31 (0, 0)) zi6 hb)
   have n7_ := Aside0.mk (below_step zi1 hb)
   have n8_ := Aside0.mk (show nb315_ ≤ w53.heap.size from zi5)
   clear HO_6
   clear HO_9
   clear HO_281002
   clear HO292
   clear BK261
   clear BK262
   clear BK280
   clear HB
   clear HNB315
   have HO_6 := n0_
   have HO_9 := n1_
   have HO_281002 := n2_
   have HO292 := n3_
   have BK261 := n4_
   have BK262 := n5_
   have BK280 := n6_
   have HB := n7_
   have HNB315 := n8_
   clear n0_ n1_ n2_ n3_ n4_ n5_ n6_ n7_ n8_
   (try clear hb)
   (try clear hb2)
   (try clear hk)
   (try clear hi)
   (try clear hna_)
   (try clear hnb_)
   refine hK.out _ _ ⟨(blk_cell BK280.out 0).trans rfl, (blk_cell BK280.out 1).trans rfl, (blk_cell BK280.out 2).trans rfl, (blk_cell BK261.out 0).trans rfl, (blk_cell BK261.out 1).trans rfl, (blk_cell BK261.out 2).trans rfl⟩ (fun hHeld => ?_)
   clear hK K
   refine norm_ (a' := ?_) ?_ ?_
   rotate_left
   ·show Act.put _ (some 50) _ = _
    simp only [Act.put, List.setIfInBounds_toArray, List.set_cons_zero, List.set_cons_succ, i64_w, i32_w]
    rfl
   refine pure_ (i := 4) (N := some 51) (v := ?_) (a' := ?_) #[true, true, true, true, true] rfl rfl (by kernel_rfl) (fun _ _ _ h => h) (Or.inl ⟨by rfl, ?_⟩) ?_ ?_
   rotate_left
   ·intro w'
    go_simp
    with_reducible rfl
   rotate_left
   ·simp only [Act.put, List.setIfInBounds_toArray, List.set_cons_zero, List.set_cons_succ, i64_w, i32_w]
    rfl
   refine done_ (by kernel_rfl) ?_
   have hnb54 := NB280_261.out
   have hnc54 := NB261_280.out
   have hnb55 := NB280_262.out
   have hnc55 := NB262_280.out
   have hcz56_0 : w53.cell? ⟨gb280, 0, none⟩ = some (.int .i64 t275) := (blk_cell BK280.out 0).trans rfl
   have hcz56_1 : w53.cell? ⟨gb280, 1, none⟩ = some (.int .i64 t276) := (blk_cell BK280.out 1).trans rfl
   have hcz56_2 : w53.cell? ⟨gb280, 2, none⟩ = some (.slice Ao33 t277.length co33) := (blk_cell BK280.out 2).trans rfl
   have hfz56_0 := blk_frozen BK280.out 0
   have hfz56_1 := blk_frozen BK280.out 1
   have hfz56_2 := blk_frozen BK280.out 2
   go_upto_region 14 with (first | ((with_reducible refine gate_callee (f := 14) rfl ?_); refine goesL_ (some 54) rfl rfl Try.func14 (by kernel_rfl) rfl #[.agg #[.int .i64 t275, .int .i64 t276, .slice Ao33 t277.length co33], .int .i64 1] rfl zi4 ?_; (with_reducible refine (laws_markBoard.calls kj15 t275 t276 (fun k_ => some k_ = (.slice Ao33 t277.length co33 : Value).ownBlock) (.slice Ao33 t277.length co33) t277 1 t294 t295 w _ ?side1 ?side2 A48.out).mono ?_); (case side1 => exact zi1); (case side2 => exact Kd.R_tight rfl HO_281002.out); rintro e w57 ⟨rfl, hy0, hb, hkp⟩; refine ⟨_, rfl, ?_⟩; have n0_ := Aside0.mk (Kd.S_mono (ok' := fun k_ => some k_ ≠ (v284 : Value).ownBlock ∧ some k_ ≠ (.slice Ao33 t277.length co33 : Value).ownBlock ∧ some k_ ≠ (.slice Ao52 t290.length co52 : Value).ownBlock ∧ k_ ≠ (rngIn na315_ nb315_ k_)) (Kd.S_keptB (HO_6.out) hkp (fun k_ hk_ hs_ => (hk_.1.2.1) hs_)) (fun k_ hk_ => ⟨hk_.1.1.1, hk_.1.1.2.1, hk_.1.2, hk_.1.1.2.2⟩)); have n1_ := Aside0.mk (Kd.S_mono (ok' := fun k_ => some k_ ≠ (v272 : Value).ownBlock ∧ some k_ ≠ (.slice Ao33 t277.length co33 : Value).ownBlock ∧ some k_ ≠ (.slice Ao52 t290.length co52 : Value).ownBlock ∧ k_ ≠ (rngOut na315_ nb315_ k_)) (Kd.S_keptB (HO_9.out) hkp (fun k_ hk_ hs_ => (hk_.1.2.1) hs_)) (fun k_ hk_ => ⟨hk_.1.1.1, hk_.1.1.2.1, hk_.1.2, hk_.1.1.2.2⟩)); have n2_ := Aside0.mk (Kd.R_reok rfl hy0 (fun k_ e_ => HO_281002.out.1 k_ e_)); have n3_ := Aside0.mk (blk_kept zi2 hkp (fun hs_ => (fun e_ => (Kd.R_ne HO_281002.out BK261.out (by decide)) e_) hs_)); have n4_ := Aside0.mk (blk_kept zi3 hkp (fun hs_ => (fun e_ => (Kd.R_ne HO_281002.out BK262.out (by decide)) e_) hs_)); have n5_ := Aside0.mk (blk_kept zi6 hkp (fun hs_ => (fun e_ => (Kd.R_ne HO_281002.out BK280.out (by decide)) e_) hs_)); have n6_ := Aside0.mk (Kd.R_mono (ok' := fun k_ => some k_ ≠ (.slice Ao33 t277.length co33 : Value).ownBlock) (Kd.R_keptB (HO292.out) hkp (fun k_ hk_ hs_ => (hk_.2) hs_)) (fun k_ hk_ => hk_.1.2)); have n7_ := Aside0.mk (hb); have n8_ := Aside0.mk (show nb315_ ≤ w57.heap.size from zi5); clear HO_6; clear HO_9; clear HO_281002; clear BK261; clear BK262; clear BK280; clear HO292; clear HB; clear HNB315; have HO_6 := n0_; have HO_9 := n1_; have HO_281002 := n2_; have BK261 := n3_; have BK262 := n4_; have BK280 := n5_; have HO292 := n6_; have HB := n7_; have HNB315 := n8_; clear n0_ n1_ n2_ n3_ n4_ n5_ n6_ n7_ n8_; (try clear hb); (try clear hkp); (try clear hy0)))
   (try simp only [Act.put, List.setIfInBounds_toArray, List.set_cons_zero, List.set_cons_succ])
   go_cut [67] (fun v67 wc => ∃ (kq : Nat) (x67_48 : Bool), v67 = .bool x67_48 ∧ Aside0 (laws_FnExactForcedLeaps.j1 kq t271 t274 t283 x67_48 a0_0 a0_1 l0_2 a1_0 a1_1 = some r) ∧ Aside0 (kq ≤ kj15) ∧ Aside0 (Kd.S (Kd.slice 3 (Kd.int .i64)) 22 wc w.heap.size (fun k_ => some k_ ≠ (v284 : Value).ownBlock ∧ some k_ ≠ ((.slice Ao33 t277.length co33) : Value).ownBlock ∧ k_ ≠ (rngIn na315_ nb315_ k_)) v272 t271) ∧ Aside0 (Kd.S (Kd.slice 3 (Kd.int .i64)) 22 wc w.heap.size (fun k_ => some k_ ≠ (v272 : Value).ownBlock ∧ some k_ ≠ ((.slice Ao33 t277.length co33) : Value).ownBlock ∧ k_ ≠ (rngOut na315_ nb315_ k_)) v284 t283) ∧ Aside0 (Kd.R (Kd.int .i64) 3 wc w.heap.size (fun _ => True) (.slice Ao33 t277.length co33) t295) ∧ Aside0 (wc.heap[gb261]? = some (.cells #[.int .i64 a0_0, .int .i64 a0_1, (.slice A0_2 l0_2.length c0_2)] 24 (0, 0))) ∧ Aside0 (wc.heap[gb262]? = some (.cells #[.int .i64 a1_0, .int .i64 a1_1] 26 (0, 0))) ∧ Aside0 (wc.heap[gb280]? = some (.cells #[.int .i64 t275, .int .i64 t276, (.slice Ao33 t277.length co33)] 31 (0, 0))) ∧ Aside0 (nb315_ ≤ wc.heap.size) ∧ Aside0 (Below w.heap.size w wc))
   case first =>
    have H := HC49.out
    clear HC49
    by_cases c58 : t294 < 0
    ·rw [if_pos c58] at H
     have c58b0 : decide (t294 < 0) = true := decide_eq_true c58
     clear c58
     (first | rw [c58b0] | (simp only [i64_w, i32_w]; rw [c58b0]) | skip)
     have H' := Aside0.mk H
     clear H
     go_wp2
     go_meet
     case rel => exact ⟨_, (true), zi25, H', ⟨by have := HJ15.out; first | omega | exact Nat.le_refl _⟩, ⟨zi22⟩, ⟨zi21⟩, ⟨zi24⟩, ⟨zi2⟩, ⟨zi3⟩, ⟨zi6⟩, ⟨zi17⟩, ⟨zi1⟩⟩
    rw [if_neg c58] at H
    have c58b0 : decide (t294 < 0) = false := decide_eq_false c58
    clear c58
    (first | rw [c58b0] | (simp only [i64_w, i32_w]; rw [c58b0]) | skip)
    replace H := Option.bind_eq_some_iff.mp H
    obtain ⟨t296, A590, H⟩ := H
    replace H : (if t296 = true then (laws_FnExactForcedLeaps.j1 kj15 t271 t274 t283 (t286 != t274) a0_0 a0_1 l0_2 a1_0 a1_1) else (laws_FnExactForcedLeaps.j1 kj15 t271 t274 t283 true a0_0 a0_1 l0_2 a1_0 a1_1)) = some r := H
    have A59 := Aside0.mk A590
    clear A590
    by_cases c60 : t296 = true
    ·subst c60
     have H1 : (laws_FnExactForcedLeaps.j1 kj15 t271 t274 t283 (t286 != t274) a0_0 a0_1 l0_2 a1_0 a1_1) = some r := by rw [if_pos rfl] at H; exact H
     clear H
     have H := H1
     clear H1
     have H' := Aside0.mk H
     clear H
     obtain ⟨Ao61, co61, eo61⟩ := Kd.S_slice HO_9.out
     subst eo61
     obtain ⟨Ao62, co62, eo62⟩ := Kd.S_slice HO_6.out
     subst eo62
     go_wp2_with (first | (go_at_call 12; (with_reducible refine (laws_eqIntSS.calls kj15 _ _ t283 _ _ t271 true _ ?side1 ?side2 ?side3 ?side4 A59.out).mono ?_); (case side1 => exact zi9); (case side2 => exact (Kd.S_reads' HO_9.out).2.1); (case side3 => exact zi18); (case side4 => exact (Kd.S_reads' HO_6.out).2.1); rintro e w' ⟨rfl, ⟨nd, rfl⟩⟩))
     go_meet
     case rel => exact ⟨_, ((t286 != t274)), zi25, H', ⟨by have := HJ15.out; first | omega | exact Nat.le_refl _⟩, ⟨zi22⟩, ⟨zi21⟩, ⟨zi24⟩, ⟨zi2⟩, ⟨zi3⟩, ⟨zi6⟩, ⟨zi17⟩, ⟨zi1⟩⟩
    replace c60 := Bool.eq_false_iff.mpr c60
    subst c60
    have H1 : (laws_FnExactForcedLeaps.j1 kj15 t271 t274 t283 true a0_0 a0_1 l0_2 a1_0 a1_1) = some r := by rw [if_neg (show ¬ (false = true) by decide)] at H; exact H
    clear H
    have H := H1
    clear H1
    have H' := Aside0.mk H
    clear H
    obtain ⟨Ao63, co63, eo63⟩ := Kd.S_slice HO_9.out
    subst eo63
    obtain ⟨Ao64, co64, eo64⟩ := Kd.S_slice HO_6.out
    subst eo64
    go_wp2_with (first | (go_at_call 12; (with_reducible refine (laws_eqIntSS.calls kj15 _ _ t283 _ _ t271 false _ ?side1 ?side2 ?side3 ?side4 A59.out).mono ?_); (case side1 => exact zi9); (case side2 => exact (Kd.S_reads' HO_9.out).2.1); (case side3 => exact zi18); (case side4 => exact (Kd.S_reads' HO_6.out).2.1); rintro e w' ⟨rfl, ⟨nd, rfl⟩⟩))
    go_meet
    case rel => exact ⟨_, (true), zi25, H', ⟨by have := HJ15.out; first | omega | exact Nat.le_refl _⟩, ⟨zi22⟩, ⟨zi21⟩, ⟨zi24⟩, ⟨zi2⟩, ⟨zi3⟩, ⟨zi6⟩, ⟨zi17⟩, ⟨zi1⟩⟩
   case rest =>
    clear HC49
    try clear c1; try clear p2; try clear c3; try clear c4; try clear c4b0; try clear c5; try clear c6; try clear c7; try clear c8; try clear c9; try clear c10; try clear c11; try clear c12; try clear c13; try clear c14; try clear c19; try clear c30; try clear c31; try clear c39; try clear c44; try clear c47; try clear c54; try clear c55; try clear c58; try clear c58b0; try clear c60; try clear hcz20_0; try clear hcz20_1; try clear hcz20_2; try clear hcz27_0; try clear hcz27_1; try clear hcz27_2; try clear hcz32_0; try clear hcz32_1; try clear hcz32_2; try clear hcz56_0; try clear hcz56_1; try clear hcz56_2
    try clear hcz8_0; try clear hcz8_1; try clear hcz8_2; try clear hfz20_0; try clear hfz20_1; try clear hfz20_2; try clear hfz27_0; try clear hfz27_1; try clear hfz27_2; try clear hfz32_0; try clear hfz32_1; try clear hfz32_2; try clear hfz56_0; try clear hfz56_1; try clear hfz56_2; try clear hfz8_0; try clear hfz8_1; try clear hfz8_2; try clear p2
    obtain ⟨kq, x67_48, rfl, HA, HJ48, HO_6, HO_9, HO_281002, BK261, BK262, BK280, HNB315, HB⟩ := hcut
    have hl281002_48 := (Kd.R_reads' HO_281002.out).1
    rw [hl281002_48] at HO_281002
    (try simp only [hl281002_48])
    (try simp only [hl281002_48] at BK261)
    (try simp only [hl281002_48] at BK262)
    (try simp only [hl281002_48] at BK280)
    (try simp only [hl281002_48] at HO_6)
    (try simp only [hl281002_48] at HO_9)
    cases kq with
    | zero => exact absurd HA.out (by simp [laws_FnExactForcedLeaps.j1])
    | succ kj48 =>
     have H := HA.out
     clear HA
     simp only [laws_FnExactForcedLeaps.j1] at H
     by_cases c65 : x67_48 = true
     ·subst c65
      have H1 : (some false) = some r := by rw [if_pos rfl] at H; exact H
      clear H
      have H := H1
      clear H1
      obtain rfl := Option.some.inj H
      go_wp2
      go_ret
      exact ⟨zi12, zi1⟩
     replace c65 := Bool.eq_false_iff.mpr c65
     subst c65
     have H1 : ((laws_markIntSS.f t283 1).bind fun bt297 => ((laws_heldIntSS.f kj48 bt297.2 1).bind fun t299 => (if t299 < 0 then (some false) else (if t299 = bt297.1 then ((laws_toBoard.f kj48 a0_0 a0_1 l0_2).bind fun bt300 => ((laws_toLeaper.f a1_0 a1_1).bind fun bt305 => ((impl_ForcedLeaps.f kj48 bt300.1 bt300.2.1 bt300.2.2 bt305.1 bt305.2).bind fun bt307 => ((laws_eqIntSS.f kj48 bt307.1 t271).bind fun t311 => (if t311 = true then (laws_FnExactForcedLeaps.j2 kj48 bt297.2 bt297.1 (bt307.2 != t274)) else (laws_FnExactForcedLeaps.j2 kj48 bt297.2 bt297.1 true)))))) else (some false))))) = some r := by rw [if_neg (show ¬ (false = true) by decide)] at H; exact H
     clear H
     have H := H1
     clear H1
     replace H := Option.bind_eq_some_iff.mp H
     obtain ⟨⟨t297, t298⟩, A660, H⟩ := H
     replace H : ((laws_heldIntSS.f kj48 t298 1).bind fun t299 => (if t299 < 0 then (some false) else (if t299 = t297 then ((laws_toBoard.f kj48 a0_0 a0_1 l0_2).bind fun bt300 => ((laws_toLeaper.f a1_0 a1_1).bind fun bt305 => ((impl_ForcedLeaps.f kj48 bt300.1 bt300.2.1 bt300.2.2 bt305.1 bt305.2).bind fun bt307 => ((laws_eqIntSS.f kj48 bt307.1 t271).bind fun t311 => (if t311 = true then (laws_FnExactForcedLeaps.j2 kj48 t298 t297 (bt307.2 != t274)) else (laws_FnExactForcedLeaps.j2 kj48 t298 t297 true)))))) else (some false)))) = some r := H
     have A66 := Aside0.mk A660
     clear A660
     replace H := Option.bind_eq_some_iff.mp H
     obtain ⟨t299, A670, H⟩ := H
     replace H : (if t299 < 0 then (some false) else (if t299 = t297 then ((laws_toBoard.f kj48 a0_0 a0_1 l0_2).bind fun bt300 => ((laws_toLeaper.f a1_0 a1_1).bind fun bt305 => ((impl_ForcedLeaps.f kj48 bt300.1 bt300.2.1 bt300.2.2 bt305.1 bt305.2).bind fun bt307 => ((laws_eqIntSS.f kj48 bt307.1 t271).bind fun t311 => (if t311 = true then (laws_FnExactForcedLeaps.j2 kj48 t298 t297 (bt307.2 != t274)) else (laws_FnExactForcedLeaps.j2 kj48 t298 t297 true)))))) else (some false))) = some r := H
     have A67 := Aside0.mk A670
     clear A670
     by_cases c68 : t299 < 0
     ·rw [if_pos c68] at H
      have c68b0 : decide (t299 < 0) = true := decide_eq_true c68
      clear c68
      obtain rfl := Option.some.inj H
      obtain ⟨Ao69, co69, eo69⟩ := Kd.S_slice HO_9.out
      subst eo69
      go_wp2_with (first | ((with_reducible refine gate_callee (f := 15) rfl ?_); refine goesL_ (some 70) rfl rfl Try.func15 (by kernel_rfl) rfl #[.slice Ao69 t283.length co69, .int .i64 1] rfl zi4 ?_; (with_reducible refine (laws_markIntSS.calls (fun k_ => (some k_ ≠ (v272 : Value).ownBlock ∧ (some k_ ≠ (.slice Ao33 t295.length co33 : Value).ownBlock ∧ k_ ≠ (rngOut na315_ nb315_ k_))) ∧ (k_ ≠ gb261 ∧ k_ ≠ gb262 ∧ k_ ≠ gb280)) (.slice Ao69 t283.length co69) t283 1 t297 t298 w _ ?side1 ?side2 A66.out).mono ?_); (case side1 => exact zi1); (case side2 => exact Kd.S_mono (Kd.S_types (Kd.S_types (Kd.S_types zi10 zi2 (by decide)) zi3 (by decide)) zi6 (by decide)) (fun k_ hk_ => ⟨hk_.1.1.1, hk_.1.1.2, hk_.1.2, hk_.2⟩)); rintro e w70 ⟨rfl, hy0, hb, hkp⟩; refine ⟨_, rfl, ?_⟩; have n0_ := Aside0.mk (Kd.S_mono (ok' := fun k_ => some k_ ≠ (.slice Ao69 t283.length co69 : Value).ownBlock ∧ some k_ ≠ (.slice Ao33 t295.length co33 : Value).ownBlock ∧ k_ ≠ (rngIn na315_ nb315_ k_)) (Kd.S_keptB (HO_6.out) hkp (fun k_ hk_ hs_ => rng_apart hs_.1.2.2 hk_.2.2)) (fun k_ hk_ => ⟨hk_.1.1, hk_.1.2.1, hk_.1.2.2⟩)); have n1_ := Aside0.mk (Kd.S_mono hy0 (fun k_ hk_ => hk_.1)); have n2_ := Aside0.mk (Kd.R_mono (ok' := fun k_ => True) (Kd.R_keptB (Kd.R_tight2 rfl HO_281002.out) hkp (fun k_ hk_ hs_ => hs_.1.2.1 hk_.1)) (fun k_ hk_ => trivial)); have n3_ := Aside0.mk (blk_kept zi2 hkp (fun hs_ => hs_.2.1 rfl)); have n4_ := Aside0.mk (blk_kept zi3 hkp (fun hs_ => hs_.2.2.1 rfl)); have n5_ := Aside0.mk (blk_kept zi6 hkp (fun hs_ => hs_.2.2.2 rfl)); have n6_ := Aside0.mk (hb); have n7_ := Aside0.mk (show nb315_ ≤ w70.heap.size from zi5); clear HO_6; clear HO_9; clear HO_281002; clear BK261; clear BK262; clear BK280; clear HB; clear HNB315; have HO_6 := n0_; have HO_9 := n1_; have HO_281002 := n2_; have BK261 := n3_; have BK262 := n4_; have BK280 := n5_; have HB := n6_; have HNB315 := n7_; clear n0_ n1_ n2_ n3_ n4_ n5_ n6_ n7_; (try clear hb); (try clear hkp); (try clear hy0)) | ((with_reducible refine gate_callee (f := 16) rfl ?_); refine goesL_ (some 73) rfl rfl Try.func16 (by kernel_rfl) rfl #[.slice Ao69 t298.length co69, .int .i64 1] rfl zi19 ?_; (with_reducible refine (laws_heldIntSS.calls kj48 _ _ t298 1 t299 _ ?side1 ?side2 A67.out).mono ?_); (case side1 => exact zi9); (case side2 => exact zi27); rintro e w' ⟨rfl, ⟨nd, rfl⟩⟩; refine ⟨_, rfl, ?_⟩))
      go_ret
      exact ⟨zi12, zi1⟩
     rw [if_neg c68] at H
     have c68b0 : decide (t299 < 0) = false := decide_eq_false c68
     clear c68
     by_cases c71 : t299 = t297
     rotate_left
     ·rw [if_neg c71] at H
      have c71b0 : (t299 == t297) = false := beq_eq_false_iff_ne.mpr c71
      have c71b1 : (t299 != t297) = true := bne_iff_ne.mpr c71
      obtain rfl := Option.some.inj H
      obtain ⟨Ao93, co93, eo93⟩ := Kd.S_slice HO_9.out
      subst eo93
      go_wp2_with (first | ((with_reducible refine gate_callee (f := 15) rfl ?_); refine goesL_ (some 70) rfl rfl Try.func15 (by kernel_rfl) rfl #[.slice Ao93 t283.length co93, .int .i64 1] rfl zi4 ?_; (with_reducible refine (laws_markIntSS.calls (fun k_ => (some k_ ≠ (v272 : Value).ownBlock ∧ (some k_ ≠ (.slice Ao33 t295.length co33 : Value).ownBlock ∧ k_ ≠ (rngOut na315_ nb315_ k_))) ∧ (k_ ≠ gb261 ∧ k_ ≠ gb262 ∧ k_ ≠ gb280)) (.slice Ao93 t283.length co93) t283 1 t297 t298 w _ ?side1 ?side2 A66.out).mono ?_); (case side1 => exact zi1); (case side2 => exact Kd.S_mono (Kd.S_types (Kd.S_types (Kd.S_types zi10 zi2 (by decide)) zi3 (by decide)) zi6 (by decide)) (fun k_ hk_ => ⟨hk_.1.1.1, hk_.1.1.2, hk_.1.2, hk_.2⟩)); rintro e w94 ⟨rfl, hy0, hb, hkp⟩; refine ⟨_, rfl, ?_⟩; have n0_ := Aside0.mk (Kd.S_mono (ok' := fun k_ => some k_ ≠ (.slice Ao93 t283.length co93 : Value).ownBlock ∧ some k_ ≠ (.slice Ao33 t295.length co33 : Value).ownBlock ∧ k_ ≠ (rngIn na315_ nb315_ k_)) (Kd.S_keptB (HO_6.out) hkp (fun k_ hk_ hs_ => rng_apart hs_.1.2.2 hk_.2.2)) (fun k_ hk_ => ⟨hk_.1.1, hk_.1.2.1, hk_.1.2.2⟩)); have n1_ := Aside0.mk (Kd.S_mono hy0 (fun k_ hk_ => hk_.1)); have n2_ := Aside0.mk (Kd.R_mono (ok' := fun k_ => True) (Kd.R_keptB (Kd.R_tight2 rfl HO_281002.out) hkp (fun k_ hk_ hs_ => hs_.1.2.1 hk_.1)) (fun k_ hk_ => trivial)); have n3_ := Aside0.mk (blk_kept zi2 hkp (fun hs_ => hs_.2.1 rfl)); have n4_ := Aside0.mk (blk_kept zi3 hkp (fun hs_ => hs_.2.2.1 rfl)); have n5_ := Aside0.mk (blk_kept zi6 hkp (fun hs_ => hs_.2.2.2 rfl)); have n6_ := Aside0.mk (hb); have n7_ := Aside0.mk (show nb315_ ≤ w94.heap.size from zi5); clear HO_6; clear HO_9; clear HO_281002; clear BK261; clear BK262; clear BK280; clear HB; clear HNB315; have HO_6 := n0_; have HO_9 := n1_; have HO_281002 := n2_; have BK261 := n3_; have BK262 := n4_; have BK280 := n5_; have HB := n6_; have HNB315 := n7_; clear n0_ n1_ n2_ n3_ n4_ n5_ n6_ n7_; (try clear hb); (try clear hkp); (try clear hy0)) | ((with_reducible refine gate_callee (f := 16) rfl ?_); refine goesL_ (some 73) rfl rfl Try.func16 (by kernel_rfl) rfl #[.slice Ao93 t298.length co93, .int .i64 1] rfl zi19 ?_; (with_reducible refine (laws_heldIntSS.calls kj48 _ _ t298 1 t299 _ ?side1 ?side2 A67.out).mono ?_); (case side1 => exact zi9); (case side2 => exact zi27); rintro e w' ⟨rfl, ⟨nd, rfl⟩⟩; refine ⟨_, rfl, ?_⟩))
      go_ret
      exact ⟨zi12, zi1⟩
     rw [if_pos c71] at H
     have c71b0 : (t299 == t297) = true := beq_iff_eq.mpr c71
     have c71b1 : (t299 != t297) = false := bne_eq_false_iff_eq.mpr c71
     clear c71
     replace H := Option.bind_eq_some_iff.mp H
     obtain ⟨⟨t300, t301, t302⟩, A720, H⟩ := H
     replace H : ((laws_toLeaper.f a1_0 a1_1).bind fun bt305 => ((impl_ForcedLeaps.f kj48 t300 t301 t302 bt305.1 bt305.2).bind fun bt307 => ((laws_eqIntSS.f kj48 bt307.1 t271).bind fun t311 => (if t311 = true then (laws_FnExactForcedLeaps.j2 kj48 t298 t297 (bt307.2 != t274)) else (laws_FnExactForcedLeaps.j2 kj48 t298 t297 true))))) = some r := H
     have A72 := Aside0.mk A720
     clear A720
     replace H := Option.bind_eq_some_iff.mp H
     obtain ⟨⟨t305, t306⟩, A730, H⟩ := H
     replace H : ((impl_ForcedLeaps.f kj48 t300 t301 t302 t305 t306).bind fun bt307 => ((laws_eqIntSS.f kj48 bt307.1 t271).bind fun t311 => (if t311 = true then (laws_FnExactForcedLeaps.j2 kj48 t298 t297 (bt307.2 != t274)) else (laws_FnExactForcedLeaps.j2 kj48 t298 t297 true)))) = some r := H
     have A73 := Aside0.mk A730
     clear A730
     replace H := Option.bind_eq_some_iff.mp H
     obtain ⟨⟨t307, t310⟩, A740, H⟩ := H
     replace H : ((laws_eqIntSS.f kj48 t307 t271).bind fun t311 => (if t311 = true then (laws_FnExactForcedLeaps.j2 kj48 t298 t297 (t310 != t274)) else (laws_FnExactForcedLeaps.j2 kj48 t298 t297 true))) = some r := H
     have A74 := Aside0.mk A740
     clear A740
     have HC75 := Aside0.mk H
     clear H
     obtain ⟨Ao76, co76, eo76⟩ := Kd.S_slice HO_9.out
     subst eo76
     try go_wp2_with (first | ((with_reducible refine gate_callee (f := 15) rfl ?_); refine goesL_ (some 70) rfl rfl Try.func15 (by kernel_rfl) rfl #[.slice Ao76 t283.length co76, .int .i64 1] rfl zi4 ?_; (with_reducible refine (laws_markIntSS.calls (fun k_ => (some k_ ≠ (v272 : Value).ownBlock ∧ (some k_ ≠ (.slice Ao33 t295.length co33 : Value).ownBlock ∧ k_ ≠ (rngOut na315_ nb315_ k_))) ∧ (k_ ≠ gb261 ∧ k_ ≠ gb262 ∧ k_ ≠ gb280)) (.slice Ao76 t283.length co76) t283 1 t297 t298 w _ ?side1 ?side2 A66.out).mono ?_); (case side1 => exact zi1); (case side2 => exact Kd.S_mono (Kd.S_types (Kd.S_types (Kd.S_types zi10 zi2 (by decide)) zi3 (by decide)) zi6 (by decide)) (fun k_ hk_ => ⟨hk_.1.1.1, hk_.1.1.2, hk_.1.2, hk_.2⟩)); rintro e w77 ⟨rfl, hy0, hb, hkp⟩; refine ⟨_, rfl, ?_⟩; have n0_ := Aside0.mk (Kd.S_mono (ok' := fun k_ => some k_ ≠ (.slice Ao76 t283.length co76 : Value).ownBlock ∧ some k_ ≠ (.slice Ao33 t295.length co33 : Value).ownBlock ∧ k_ ≠ (rngIn na315_ nb315_ k_)) (Kd.S_keptB (HO_6.out) hkp (fun k_ hk_ hs_ => rng_apart hs_.1.2.2 hk_.2.2)) (fun k_ hk_ => ⟨hk_.1.1, hk_.1.2.1, hk_.1.2.2⟩)); have n1_ := Aside0.mk (Kd.S_mono hy0 (fun k_ hk_ => hk_.1)); have n2_ := Aside0.mk (Kd.R_mono (ok' := fun k_ => True) (Kd.R_keptB (Kd.R_tight2 rfl HO_281002.out) hkp (fun k_ hk_ hs_ => hs_.1.2.1 hk_.1)) (fun k_ hk_ => trivial)); have n3_ := Aside0.mk (blk_kept zi2 hkp (fun hs_ => hs_.2.1 rfl)); have n4_ := Aside0.mk (blk_kept zi3 hkp (fun hs_ => hs_.2.2.1 rfl)); have n5_ := Aside0.mk (blk_kept zi6 hkp (fun hs_ => hs_.2.2.2 rfl)); have n6_ := Aside0.mk (hb); have n7_ := Aside0.mk (show nb315_ ≤ w77.heap.size from zi5); clear HO_6; clear HO_9; clear HO_281002; clear BK261; clear BK262; clear BK280; clear HB; clear HNB315; have HO_6 := n0_; have HO_9 := n1_; have HO_281002 := n2_; have BK261 := n3_; have BK262 := n4_; have BK280 := n5_; have HB := n6_; have HNB315 := n7_; clear n0_ n1_ n2_ n3_ n4_ n5_ n6_ n7_; (try clear hb); (try clear hkp); (try clear hy0)) | ((with_reducible refine gate_callee (f := 16) rfl ?_); refine goesL_ (some 73) rfl rfl Try.func16 (by kernel_rfl) rfl #[.slice Ao76 t298.length co76, .int .i64 1] rfl zi19 ?_; (with_reducible refine (laws_heldIntSS.calls kj48 _ _ t298 1 t299 _ ?side1 ?side2 A67.out).mono ?_); (case side1 => exact zi9); (case side2 => exact zi27); rintro e w' ⟨rfl, ⟨nd, rfl⟩⟩; refine ⟨_, rfl, ?_⟩))
     (try (rw [drewN_self w77]; generalize hq_ : World.drewN w77 _ = w77; have n0_ : Aside0 (Kd.R (Kd.int .i64) 3 w77 w.heap.size (fun k_ => True) (.slice Ao33 t295.length co33) t295) := ⟨by rw [← hq_]; exact zi8⟩; have n1_ : Aside0 (Kd.S (Kd.slice 3 (Kd.int .i64)) 22 w77 w.heap.size (fun k_ => (some k_ ≠ (.slice Ao76 t283.length co76 : Value).ownBlock ∧ (some k_ ≠ (.slice Ao33 t295.length co33 : Value).ownBlock ∧ k_ ≠ (rngIn na315_ nb315_ k_)))) v272 t271) := ⟨by rw [← hq_]; exact zi15⟩; have n2_ : Aside0 (Kd.S (Kd.slice 3 (Kd.int .i64)) 22 w77 w.heap.size (fun k_ => (some k_ ≠ (v272 : Value).ownBlock ∧ (some k_ ≠ (.slice Ao33 t295.length co33 : Value).ownBlock ∧ k_ ≠ (rngOut na315_ nb315_ k_)))) (.slice Ao76 t283.length co76) t298) := ⟨by rw [← hq_]; exact zi10⟩; have n3_ : Aside0 (w77.heap[gb261]? = some (.cells #[.int .i64 a0_0, .int .i64 a0_1, .slice A0_2 l0_2.length c0_2] 24 (0, 0))) := ⟨by rw [← hq_]; exact zi2⟩; have n4_ : Aside0 (w77.heap[gb262]? = some (.cells #[.int .i64 a1_0, .int .i64 a1_1] 26 (0, 0))) := ⟨by rw [← hq_]; exact zi3⟩; have n5_ : Aside0 (w77.heap[gb280]? = some (.cells #[.int .i64 t275, .int .i64 t276, .slice Ao33 t295.length co33] 31 (0, 0))) := ⟨by rw [← hq_]; exact zi6⟩; have n6_ : Aside0 (nb315_ ≤ w77.heap.size) := ⟨by rw [← hq_]; exact zi17⟩; have n7_ : Aside0 (Below w.heap.size w w77) := ⟨by rw [← hq_]; exact zi1⟩; clear HO_281002 HO_6 HO_9 BK261 BK262 BK280 HNB315 HB hq_; have HO_281002 := n0_; have HO_6 := n1_; have HO_9 := n2_; have BK261 := n3_; have BK262 := n4_; have BK280 := n5_; have HNB315 := n6_; have HB := n7_; clear n0_ n1_ n2_ n3_ n4_ n5_ n6_ n7_))
     have n0_ := Aside0.mk (Kd.S_drew HO_6.out)
     have n1_ := Aside0.mk (Kd.S_drew HO_9.out)
     have n2_ := Aside0.mk (Kd.R_drew HO_281002.out)
     have n3_ := Aside0.mk (blk_drew BK261.out)
     have n4_ := Aside0.mk (blk_drew BK262.out)
     have n5_ := Aside0.mk (blk_drew BK280.out)
     have n6_ := Aside0.mk (below_drew1 HB.out)
     have n7_ := Aside0.mk (show nb315_ ≤ (w77.drew).heap.size from zi17)
     clear HO_6
     clear HO_9
     clear HO_281002
     clear BK261
     clear BK262
     clear BK280
     clear HB
     clear HNB315
     have HO_6 := n0_
     have HO_9 := n1_
     have HO_281002 := n2_
     have BK261 := n3_
     have BK262 := n4_
     have BK280 := n5_
     have HB := n6_
     have HNB315 := n7_
     clear n0_ n1_ n2_ n3_ n4_ n5_ n6_ n7_
     refine start_ (n := 10) (S := fun w' => w'.cell? ⟨gb261, 0, none⟩ = some (.int .i64 a0_0) ∧ w'.cell? ⟨gb261, 1, none⟩ = some (.int .i64 a0_1) ∧ w'.cell? ⟨gb261, 2, none⟩ = some (.slice A0_2 l0_2.length c0_2) ∧ w'.cell? ⟨gb262, 0, none⟩ = some (.int .i64 a1_0) ∧ w'.cell? ⟨gb262, 1, none⟩ = some (.int .i64 a1_1)) (ds := []) #[false, false, false, false, false, false, false, false, false, false] (by kernel_rfl) rfl rfl ⟨(blk_cell BK261.out 0).trans rfl, (blk_cell BK261.out 1).trans rfl, (blk_cell BK261.out 2).trans rfl, (blk_cell BK262.out 0).trans rfl, (blk_cell BK262.out 1).trans rfl⟩ (fun hHeld => ?_); refine with_tabW laws_FnExactForcedLeaps.tab24 laws_FnExactForcedLeaps.bits24 (fun HT_ HW_ => ?_)
     generalize w77.drew = w78 at HO_6 HO_9 HO_281002 BK261 BK262 BK280 HNB315 HB hHeld ⊢
     refine take_ (i := 0) (N := some 80) (v := ?_) (a' := ?_) #[true, false, false, false, false, false, false, false, false, false] rfl rfl (take_ofW HT_.out HW_.out (by kernel_rfl)) (fun _ _ _ h => h) (Or.inl ⟨by rfl, ?_⟩) hHeld ?_ ?_
     rotate_left
     ·rintro w' ⟨s0, s1, s2, s3, s4⟩
      go_simp
      with_reducible rfl
     rotate_left
     ·simp only [Act.put, List.setIfInBounds_toArray, List.set_cons_zero, List.set_cons_succ, i64_w, i32_w]
      rfl
     refine take_ (i := 2) (N := some 82) (v := ?_) (a' := ?_) #[true, false, true, false, false, false, false, false, false, false] rfl rfl (take_ofW HT_.out HW_.out (by kernel_rfl)) (fun _ _ _ h => h) (Or.inl ⟨by rfl, ?_⟩) hHeld ?_ ?_
     rotate_left
     ·rintro w' ⟨s0, s1, s2, s3, s4⟩
      go_simp
      with_reducible rfl
     rotate_left
     ·simp only [Act.put, List.setIfInBounds_toArray, List.set_cons_zero, List.set_cons_succ, i64_w, i32_w]
      rfl
     refine one_ (i := 1) (N := some 81) #[true, true, true, false, false, false, false, false, false, false] rfl rfl (one_of HT_.out (by kernel_rfl)) (by decide) (fun K hK => ?_)
     refine goes_ Try.func9 (by kernel_rfl) rfl #[.agg #[.int .i64 a0_0, .int .i64 a0_1, .slice A0_2 l0_2.length c0_2]] (by rfl) rfl rfl zi4 ?_
     with_reducible refine (laws_toBoard.calls kj48 a0_0 a0_1 _ _ l0_2 t300 t301 t302 _ ?side1 ?side2 A72.out).mono ?_
     (case side1 => exact zi11)
     (case side2 => exact HC0_2.out)
     rintro e w79 ⟨v303, rfl, ho0, hb⟩
     refine ⟨_, rfl, ?_⟩
     have n0_ := Aside0.mk (Kd.S_elder' zi15 (Kd.R_base ho0) hb)
     have n1_ := Aside0.mk (Kd.S_elder' zi10 (Kd.R_base ho0) hb)
     have n2_ := Aside0.mk (Kd.R_elder' zi8 (Kd.R_base ho0) hb)
     have n3_ := Aside0.mk (Kd.R_lower (Kd.R_new' ho0 (Kd.R_lt zi8)) (below_size zi1))
     have n4_ := Aside0.mk (blk_below (g := gb261) (o := .cells #[.int .i64 a0_0, .int .i64 a0_1, .slice A0_2 l0_2.length c0_2] 24 (0, 0)) zi2 hb)
     have n5_ := Aside0.mk (blk_below (g := gb262) (o := .cells #[.int .i64 a1_0, .int .i64 a1_1] 26 (0, 0)) zi3 hb)
     have n6_ := Aside0.mk (blk_below (g := gb280) (o := .cells #[.int .i64 t275, .int .i64 t276, .slice Ao33 t295.length co33] 31 (0, 0)) zi6 hb)
     have n7_ := Aside0.mk (below_step zi1 hb)
     have n8_ := Aside0.mk (show nb315_ ≤ w79.heap.size from zi5)
     clear HO_6
     clear HO_9
     clear HO_281002
     clear BK261
     clear BK262
     clear BK280
     clear HB
     clear HNB315
     have HO_6 := n0_
     have HO_9 := n1_
     have HO_281002 := n2_
     have HO304 := n3_
     have BK261 := n4_
     have BK262 := n5_
     have BK280 := n6_
     have HB := n7_
     have HNB315 := n8_
     clear n0_ n1_ n2_ n3_ n4_ n5_ n6_ n7_ n8_
     (try clear hb)
     (try clear hb2)
     (try clear hk)
     (try clear hi)
     (try clear ho0)
     (try clear hna_)
     (try clear hnb_)
     refine hK.out _ _ ⟨(blk_cell BK261.out 0).trans rfl, (blk_cell BK261.out 1).trans rfl, (blk_cell BK261.out 2).trans rfl, (blk_cell BK262.out 0).trans rfl, (blk_cell BK262.out 1).trans rfl⟩ (fun hHeld => ?_)
     clear hK K
     refine norm_ (a' := ?_) ?_ ?_
     rotate_left
     ·show Act.put _ (some 81) _ = _
      simp only [Act.put, List.setIfInBounds_toArray, List.set_cons_zero, List.set_cons_succ, i64_w, i32_w]
      rfl
     refine one_ (i := 3) (N := some 83) #[true, true, true, true, false, false, false, false, false, false] rfl rfl (one_of HT_.out (by kernel_rfl)) (by decide) (fun K hK => ?_)
     refine goes_ Try.func10 (by kernel_rfl) rfl #[.agg #[.int .i64 a1_0, .int .i64 a1_1]] (by rfl) rfl rfl zi4 ?_
     with_reducible refine (laws_toLeaper.calls a1_0 a1_1 t305 t306 _ A73.out).mono ?_
     rintro e w80 ⟨rfl, hb⟩
     refine ⟨_, rfl, ?_⟩
     have n0_ := Aside0.mk (Kd.S_below zi15 hb)
     have n1_ := Aside0.mk (Kd.S_below zi10 hb)
     have n2_ := Aside0.mk (Kd.R_below zi8 hb)
     have n3_ := Aside0.mk (Kd.R_below zi26 hb)
     have n4_ := Aside0.mk (blk_below (g := gb261) (o := .cells #[.int .i64 a0_0, .int .i64 a0_1, .slice A0_2 l0_2.length c0_2] 24 (0, 0)) zi2 hb)
     have n5_ := Aside0.mk (blk_below (g := gb262) (o := .cells #[.int .i64 a1_0, .int .i64 a1_1] 26 (0, 0)) zi3 hb)
     have n6_ := Aside0.mk (blk_below (g := gb280) (o := .cells #[.int .i64 t275, .int .i64 t276, .slice Ao33 t295.length co33] 31 (0, 0)) zi6 hb)
     have n7_ := Aside0.mk (below_step zi1 hb)
     have n8_ := Aside0.mk (show nb315_ ≤ w80.heap.size from zi5)
     clear HO_6
     clear HO_9
     clear HO_281002
     clear HO304
     clear BK261
     clear BK262
     clear BK280
     clear HB
     clear HNB315
     have HO_6 := n0_
     have HO_9 := n1_
     have HO_281002 := n2_
     have HO304 := n3_
     have BK261 := n4_
     have BK262 := n5_
     have BK280 := n6_
     have HB := n7_
     have HNB315 := n8_
     clear n0_ n1_ n2_ n3_ n4_ n5_ n6_ n7_ n8_
     (try clear hb)
     (try clear hb2)
     (try clear hk)
     (try clear hi)
     (try clear hna_)
     (try clear hnb_)
     obtain ⟨Ao81, co81, eo81⟩ := Kd.R_slice HO304.out
     (first | subst eo81 | (injection eo81 with f1_ f2_ f3_; have f4_ := f1_.symm; have f5_ := f3_.symm; clear f1_ f2_ f3_; subst f4_; subst f5_))
     refine hK.out _ _ ⟨(blk_cell BK261.out 0).trans rfl, (blk_cell BK261.out 1).trans rfl, (blk_cell BK261.out 2).trans rfl, (blk_cell BK262.out 0).trans rfl, (blk_cell BK262.out 1).trans rfl⟩ (fun hHeld => ?_)
     clear hK K
     refine norm_ (a' := ?_) ?_ ?_
     rotate_left
     ·show Act.put _ (some 83) _ = _
      simp only [Act.put, List.setIfInBounds_toArray, List.set_cons_zero, List.set_cons_succ, i64_w, i32_w]
      rfl
     refine one_ (i := 4) (N := some 84) #[true, true, true, true, true, false, false, false, false, false] rfl rfl (one_of HT_.out (by kernel_rfl)) (by decide) (fun K hK => ?_)
     refine goes_ Try.func11 (by kernel_rfl) rfl #[.agg #[.int .i64 t300, .int .i64 t301, .slice Ao81 t302.length co81], .agg #[.int .i64 t305, .int .i64 t306]] (by rfl) rfl rfl zi4 ?_
     with_reducible refine (impl_ForcedLeaps.calls kj48 t300 t301 _ _ t302 t305 t306 t307 t310 _ ?side1 ?side2 A74.out).mono ?_
     (case side1 => repeat (first | exact (Kd.R_reads' HO304.out).2.2 | (with_reducible refine Kd.C_alloc ?_ _) | (with_reducible refine Kd.C_drewN ?_ _) | (with_reducible refine Kd.C_drew ?_)))
     (case side2 => exact (Kd.R_reads' HO304.out).2.1)
     rintro e w82 ⟨v308, rfl, ho0, hb⟩
     refine ⟨_, rfl, ?_⟩
     have n0_ := Aside0.mk (Kd.S_elder' zi15 (Kd.S_base ho0) hb)
     have n1_ := Aside0.mk (Kd.S_elder' zi10 (Kd.S_base ho0) hb)
     have n2_ := Aside0.mk (Kd.R_below zi8 hb)
     have n3_ := Aside0.mk (Kd.R_below zi26 hb)
     have n4_ := Aside0.mk (Kd.S_lower (Kd.S_new' (Kd.S_new' (Kd.S_new' (Kd.S_new' ho0 (Kd.S_lt zi15)) (Kd.S_lt zi10)) (Kd.R_lt zi8)) (Kd.R_lt zi26)) (below_size zi1))
     have n5_ := Aside0.mk (blk_below (g := gb261) (o := .cells #[.int .i64 a0_0, .int .i64 a0_1, .slice A0_2 l0_2.length c0_2] 24 (0, 0)) zi2 hb)
     have n6_ := Aside0.mk (blk_below (g := gb262) (o := .cells #[.int .i64 a1_0, .int .i64 a1_1] 26 (0, 0)) zi3 hb)
     have n7_ := Aside0.mk (blk_below (g := gb280) (o := .cells #[.int .i64 t275, .int .i64 t276, .slice Ao33 t295.length co33] 31 (0, 0)) zi6 hb)
     have n8_ := Aside0.mk (below_step zi1 hb)
     have n9_ := Aside0.mk (show nb315_ ≤ w82.heap.size from zi5)
     clear HO_6
     clear HO_9
     clear HO_281002
     clear HO304
     clear BK261
     clear BK262
     clear BK280
     clear HB
     clear HNB315
     have HO_6 := n0_
     have HO_9 := n1_
     have HO_281002 := n2_
     have HO304 := n3_
     have HO309 := n4_
     have BK261 := n5_
     have BK262 := n6_
     have BK280 := n7_
     have HB := n8_
     have HNB315 := n9_
     clear n0_ n1_ n2_ n3_ n4_ n5_ n6_ n7_ n8_ n9_
     (try clear hb)
     (try clear hb2)
     (try clear hk)
     (try clear hi)
     (try clear ho0)
     (try clear hna_)
     (try clear hnb_)
     refine hK.out _ _ ⟨(blk_cell BK261.out 0).trans rfl, (blk_cell BK261.out 1).trans rfl, (blk_cell BK261.out 2).trans rfl, (blk_cell BK262.out 0).trans rfl, (blk_cell BK262.out 1).trans rfl⟩ (fun hHeld => ?_)
     clear hK K
     refine norm_ (a' := ?_) ?_ ?_
     rotate_left
     ·show Act.put _ (some 84) _ = _
      simp only [Act.put, List.setIfInBounds_toArray, List.set_cons_zero, List.set_cons_succ, i64_w, i32_w]
      rfl
     refine pure_ (i := 5) (N := some 79) (v := ?_) (a' := ?_) #[true, true, true, true, true, true, false, false, false, false] rfl rfl (any_of HT_.out (by kernel_rfl)) (fun _ _ _ h => h) (Or.inl ⟨by rfl, ?_⟩) ?_ ?_
     rotate_left
     ·intro w'
      go_simp
      with_reducible rfl
     rotate_left
     ·simp only [Act.put, List.setIfInBounds_toArray, List.set_cons_zero, List.set_cons_succ, i64_w, i32_w]
      rfl
     refine pure_ (i := 6) (N := some 85) (v := ?_) (a' := ?_) #[true, true, true, true, true, true, true, false, false, false] rfl rfl (any_of HT_.out (by kernel_rfl)) (fun _ _ _ h => h) (Or.inl ⟨by rfl, ?_⟩) ?_ ?_
     rotate_left
     ·intro w'
      go_simp
      with_reducible rfl
     rotate_left
     ·simp only [Act.put, List.setIfInBounds_toArray, List.set_cons_zero, List.set_cons_succ, i64_w, i32_w]
      rfl
     refine pure_ (i := 7) (N := some 86) (v := ?_) (a' := ?_) #[true, true, true, true, true, true, true, true, false, false] rfl rfl (any_of HT_.out (by kernel_rfl)) (fun _ _ _ h => h) (Or.inl ⟨by rfl, ?_⟩) ?_ ?_
     rotate_left
     ·intro w'
      go_simp
      with_reducible rfl
     rotate_left
     ·simp only [Act.put, List.setIfInBounds_toArray, List.set_cons_zero, List.set_cons_succ, i64_w, i32_w]
      rfl
     refine pure_ (i := 8) (N := some 14) (v := ?_) (a' := ?_) #[true, true, true, true, true, true, true, true, true, false] rfl rfl (any_of HT_.out (by kernel_rfl)) (fun _ _ _ h => h) (Or.inl ⟨by rfl, ?_⟩) ?_ ?_
     rotate_left
     ·intro w'
      go_simp
      with_reducible rfl
     rotate_left
     ·simp only [Act.put, List.setIfInBounds_toArray, List.set_cons_zero, List.set_cons_succ, i64_w, i32_w]
      rfl
     refine pure_ (i := 9) (N := some 15) (v := ?_) (a' := ?_) #[true, true, true, true, true, true, true, true, true, true] rfl rfl (any_of HT_.out (by kernel_rfl)) (fun _ _ _ h => h) (Or.inl ⟨by rfl, ?_⟩) ?_ ?_
     rotate_left
     ·intro w'
      go_simp
      with_reducible rfl
     rotate_left
     ·simp only [Act.put, List.setIfInBounds_toArray, List.set_cons_zero, List.set_cons_succ, i64_w, i32_w]
      rfl
     refine done_ (done_of HT_.out (by kernel_rfl)) ?_
     go_upto_region 25 with (fail)
     go_cut [95] (fun v95 wc => ∃ (kq : Nat) (x95_74 : Bool), v95 = .bool x95_74 ∧ Aside0 (laws_FnExactForcedLeaps.j2 kq t298 t297 x95_74 = some r) ∧ Aside0 (kq ≤ kj48) ∧ Aside0 (Kd.S (Kd.slice 3 (Kd.int .i64)) 22 wc w.heap.size (fun k_ => some k_ ≠ ((.slice Ao33 t295.length co33) : Value).ownBlock ∧ k_ ≠ (rngOut na315_ nb315_ k_)) (.slice Ao76 t283.length co76) t298) ∧ Aside0 (Kd.R (Kd.int .i64) 3 wc w.heap.size (fun _ => True) (.slice Ao33 t295.length co33) t295) ∧ Aside0 (wc.heap[gb261]? = some (.cells #[.int .i64 a0_0, .int .i64 a0_1, (.slice A0_2 l0_2.length c0_2)] 24 (0, 0))) ∧ Aside0 (wc.heap[gb262]? = some (.cells #[.int .i64 a1_0, .int .i64 a1_1] 26 (0, 0))) ∧ Aside0 (wc.heap[gb280]? = some (.cells #[.int .i64 t275, .int .i64 t276, (.slice Ao33 t295.length co33)] 31 (0, 0))) ∧ Aside0 (nb315_ ≤ wc.heap.size) ∧ Aside0 (Below w.heap.size w wc))
     case first =>
      have H := HC75.out
      clear HC75
      replace H := Option.bind_eq_some_iff.mp H
      obtain ⟨t311, A830, H⟩ := H
      replace H : (if t311 = true then (laws_FnExactForcedLeaps.j2 kj48 t298 t297 (t310 != t274)) else (laws_FnExactForcedLeaps.j2 kj48 t298 t297 true)) = some r := H
      have A83 := Aside0.mk A830
      clear A830
      by_cases c84 : t311 = true
      ·subst c84
       have H1 : (laws_FnExactForcedLeaps.j2 kj48 t298 t297 (t310 != t274)) = some r := by rw [if_pos rfl] at H; exact H
       clear H
       have H := H1
       clear H1
       have H' := Aside0.mk H
       clear H
       obtain ⟨Ao85, co85, eo85⟩ := Kd.S_slice HO309.out
       subst eo85
       obtain ⟨Ao86, co86, eo86⟩ := Kd.S_slice HO_6.out
       subst eo86
       go_wp2_with (first | ((with_reducible refine gate_callee (f := 12) rfl ?_); refine goesL_ (some 89) rfl rfl Try.func12 (by kernel_rfl) rfl #[.slice Ao85 t307.length co85, .slice Ao86 t271.length co86] rfl zi4 ?_; (with_reducible refine (laws_eqIntSS.calls kj48 _ _ t307 _ _ t271 true _ ?side1 ?side2 ?side3 ?side4 A83.out).mono ?_); (case side1 => exact zi33); (case side2 => exact (Kd.S_reads' HO309.out).2.1); (case side3 => exact zi18); (case side4 => exact (Kd.S_reads' HO_6.out).2.1); rintro e w' ⟨rfl, ⟨nd, rfl⟩⟩; refine ⟨_, rfl, ?_⟩))
       go_meet
       case rel => exact ⟨_, ((t310 != t274)), zi25, H', ⟨by have := HJ15.out; have := HJ48.out; first | omega | exact Nat.le_refl _⟩, ⟨zi28⟩, ⟨zi29⟩, ⟨zi39⟩, ⟨zi38⟩, ⟨zi37⟩, ⟨zi17⟩, ⟨zi1⟩⟩
      replace c84 := Bool.eq_false_iff.mpr c84
      subst c84
      have H1 : (laws_FnExactForcedLeaps.j2 kj48 t298 t297 true) = some r := by rw [if_neg (show ¬ (false = true) by decide)] at H; exact H
      clear H
      have H := H1
      clear H1
      have H' := Aside0.mk H
      clear H
      obtain ⟨Ao87, co87, eo87⟩ := Kd.S_slice HO309.out
      subst eo87
      obtain ⟨Ao88, co88, eo88⟩ := Kd.S_slice HO_6.out
      subst eo88
      go_wp2_with (first | ((with_reducible refine gate_callee (f := 12) rfl ?_); refine goesL_ (some 89) rfl rfl Try.func12 (by kernel_rfl) rfl #[.slice Ao87 t307.length co87, .slice Ao88 t271.length co88] rfl zi4 ?_; (with_reducible refine (laws_eqIntSS.calls kj48 _ _ t307 _ _ t271 false _ ?side1 ?side2 ?side3 ?side4 A83.out).mono ?_); (case side1 => exact zi33); (case side2 => exact (Kd.S_reads' HO309.out).2.1); (case side3 => exact zi18); (case side4 => exact (Kd.S_reads' HO_6.out).2.1); rintro e w' ⟨rfl, ⟨nd, rfl⟩⟩; refine ⟨_, rfl, ?_⟩))
      go_meet
      case rel => exact ⟨_, (true), zi25, H', ⟨by have := HJ15.out; have := HJ48.out; first | omega | exact Nat.le_refl _⟩, ⟨zi28⟩, ⟨zi29⟩, ⟨zi39⟩, ⟨zi38⟩, ⟨zi37⟩, ⟨zi17⟩, ⟨zi1⟩⟩
     case rest =>
      clear HC75
      try clear c1; try clear p2; try clear c3; try clear c4; try clear c4b0; try clear c5; try clear c6; try clear c7; try clear c8; try clear c9; try clear c10; try clear c11; try clear c12; try clear c13; try clear c14; try clear c15; try clear c16; try clear c19; try clear c30; try clear c31; try clear c39; try clear c44; try clear c47; try clear c54; try clear c55; try clear c58; try clear c58b0; try clear c60; try clear c65; try clear c68; try clear c68b0; try clear c71; try clear c71b0; try clear c71b1; try clear c84; try clear hcz20_0; try clear hcz20_1; try clear hcz20_2; try clear hcz27_0; try clear hcz27_1
      try clear hcz27_2; try clear hcz32_0; try clear hcz32_1; try clear hcz32_2; try clear hcz56_0; try clear hcz56_1; try clear hcz56_2; try clear hcz8_0; try clear hcz8_1; try clear hcz8_2; try clear hfz20_0; try clear hfz20_1; try clear hfz20_2; try clear hfz27_0; try clear hfz27_1; try clear hfz27_2; try clear hfz32_0; try clear hfz32_1; try clear hfz32_2; try clear hfz56_0; try clear hfz56_1; try clear hfz56_2; try clear hfz8_0; try clear hfz8_1; try clear hfz8_2; try clear p2
      obtain ⟨kq, x95_74, rfl, HA, HJ74, HO_9, HO_281002, BK261, BK262, BK280, HNB315, HB⟩ := hcut
      have hl9_74 := (Kd.S_reads' HO_9.out).1
      rw [hl9_74] at HO_9
      (try simp only [hl9_74])
      (try simp only [hl9_74] at BK261)
      (try simp only [hl9_74] at BK262)
      (try simp only [hl9_74] at BK280)
      (try simp only [hl9_74] at HO_281002)
      cases kq with
      | zero => exact absurd HA.out (by simp [laws_FnExactForcedLeaps.j2])
      | succ kj74 =>
       have H := HA.out
       clear HA
       simp only [laws_FnExactForcedLeaps.j2] at H
       by_cases c89 : x95_74 = true
       ·subst c89
        have H1 : (some false) = some r := by rw [if_pos rfl] at H; exact H
        clear H
        have H := H1
        clear H1
        obtain rfl := Option.some.inj H
        go_wp2
        go_ret
        exact ⟨zi12, zi1⟩
       replace c89 := Bool.eq_false_iff.mpr c89
       subst c89
       have H1 : ((laws_heldIntSS.f kj74 t298 1).bind fun t312 => (if t312 < 0 then (some false) else (if t312 = t297 then (some true) else (some false)))) = some r := by rw [if_neg (show ¬ (false = true) by decide)] at H; exact H
       clear H
       have H := H1
       clear H1
       replace H := Option.bind_eq_some_iff.mp H
       obtain ⟨t312, A900, H⟩ := H
       replace H : (if t312 < 0 then (some false) else (if t312 = t297 then (some true) else (some false))) = some r := H
       have A90 := Aside0.mk A900
       clear A900
       by_cases c91 : t312 < 0
       ·rw [if_pos c91] at H
        have c91b0 : decide (t312 < 0) = true := decide_eq_true c91
        clear c91
        obtain rfl := Option.some.inj H
        go_wp2_with (first | ((with_reducible refine gate_callee (f := 16) rfl ?_); refine goesL_ (some 98) rfl rfl Try.func16 (by kernel_rfl) rfl #[.slice Ao76 t298.length co76, .int .i64 1] rfl zi4 ?_; (with_reducible refine (laws_heldIntSS.calls kj74 _ _ t298 1 t312 _ ?side1 ?side2 A90.out).mono ?_); (case side1 => exact zi9); (case side2 => exact (Kd.S_reads' HO_9.out).2.1); rintro e w' ⟨rfl, ⟨nd, rfl⟩⟩; refine ⟨_, rfl, ?_⟩))
        go_ret
        exact ⟨zi12, zi1⟩
       rw [if_neg c91] at H
       have c91b0 : decide (t312 < 0) = false := decide_eq_false c91
       clear c91
       by_cases c92 : t312 = t297
       rotate_left
       ·rw [if_neg c92] at H
        have c92b0 : (t312 == t297) = false := beq_eq_false_iff_ne.mpr c92
        have c92b1 : (t312 != t297) = true := bne_iff_ne.mpr c92
        obtain rfl := Option.some.inj H
        go_wp2_with (first | ((with_reducible refine gate_callee (f := 16) rfl ?_); refine goesL_ (some 98) rfl rfl Try.func16 (by kernel_rfl) rfl #[.slice Ao76 t298.length co76, .int .i64 1] rfl zi4 ?_; (with_reducible refine (laws_heldIntSS.calls kj74 _ _ t298 1 t312 _ ?side1 ?side2 A90.out).mono ?_); (case side1 => exact zi9); (case side2 => exact (Kd.S_reads' HO_9.out).2.1); rintro e w' ⟨rfl, ⟨nd, rfl⟩⟩; refine ⟨_, rfl, ?_⟩))
        go_ret
        exact ⟨zi12, zi1⟩
       rw [if_pos c92] at H
       have c92b0 : (t312 == t297) = true := beq_iff_eq.mpr c92
       have c92b1 : (t312 != t297) = false := bne_eq_false_iff_eq.mpr c92
       clear c92
       obtain rfl := Option.some.inj H
       go_wp2_with (first | ((with_reducible refine gate_callee (f := 16) rfl ?_); refine goesL_ (some 98) rfl rfl Try.func16 (by kernel_rfl) rfl #[.slice Ao76 t298.length co76, .int .i64 1] rfl zi4 ?_; (with_reducible refine (laws_heldIntSS.calls kj74 _ _ t298 1 t312 _ ?side1 ?side2 A90.out).mono ?_); (case side1 => exact zi9); (case side2 => exact (Kd.S_reads' HO_9.out).2.1); rintro e w' ⟨rfl, ⟨nd, rfl⟩⟩; refine ⟨_, rfl, ?_⟩))
       go_ret
       exact ⟨zi12, zi1⟩

end Go.Proofs.Ytemaokhlolimhaa.Q

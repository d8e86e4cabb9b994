/- Written by a program of this session: functions of the translation as plain Lean functions, each with a proof that the call does what the plain function says; the conditions stand in each theorem. -/
import Derived.Test.YtemaokhlolimhaaQ0
import Derived.Test.YtemaokhlolimhaaQ5
import Derived.Test.YtemaokhlolimhaaQ6
import Derived.Test.YtemaokhlolimhaaHSort
namespace Go.Proofs.Ytemaokhlolimhaa.Q
open Go.RowKit Go.Proofs.YtemaokhlolimhaaW.PrintWords Go.Proofs.YtemaokhlolimhaaW.PrintLast Go.Proofs.YtemaokhlolimhaaW.PrintMore
attribute [local go_sem] max2_int min2_int max_two min_two max_three min_three max_four min_four   -- for this text's walks alone
set_option linter.unusedVariables false
set_option linter.unusedSimpArgs false

theorem zh1 {p : Prop} (h : p := by repeat (first | (with_reducible first | exact HB.out | apply below_alloc | apply pw_below_drewN | apply below_drew1 | refine below_set ?_ GE256.out | refine below_set ?_ GE257.out | refine below_set ?_ GE266.out) | exact HB.out)) : p := h
theorem zh2 {p : Prop} (h : p := by repeat (first | (with_reducible first | exact HB.out | apply below_alloc | apply pw_below_drewN | apply below_drew1 | refine below_set ?_ GE256.out | refine below_set ?_ GE257.out) | exact HB.out)) : p := h
theorem zh3 {p : Prop} (h : p := by first | exact BK256.out | ((with_reducible repeat (first | refine blk_drewN ?_ _ | refine blk_drew ?_ | refine blk_alloc ?_ _)); exact BK256.out)) : p := h
theorem zh4 {p : Prop} (h : p := by first | exact HR271_0.out | (repeat (first | (with_reducible exact HR271_0.out) | (with_reducible refine Kd.C_alloc ?_ _) | (with_reducible refine Kd.C_drewN ?_ _) | (with_reducible refine Kd.C_drew ?_) | exact HR271_0.out))) : p := h
theorem zh5 {p : Prop} (h : p := by first | (with_reducible assumption) | assumption) : p := h
theorem zh6 {p : Prop} (h : p := by first | exact BK257.out | ((with_reducible repeat (first | refine blk_drewN ?_ _ | refine blk_drew ?_ | refine blk_alloc ?_ _)); exact BK257.out)) : p := h
theorem zh7 {p : Prop} (h : p := by first | exact Nat.le_trans HNB284.out hkp.1 | exact Nat.le_trans HNB284.out hb.size | exact Nat.le_trans HNB284.out hg.size | exact Nat.le_trans HNB284.out (Nat.le_trans (by simp) hb.size) | exact Nat.le_trans HNB284.out (Nat.le_trans (by simp) hg.size) | (rw [hw]; simpa using HNB284.out) | exact HNB284.out) : p := h
theorem zh8 {p : Prop} (h : p := by first | exact HO_267005.out | ((with_reducible repeat (first | apply Kd.R_alloc | apply Kd.R_drewN | apply Kd.R_drew)); exact HO_267005.out)) : p := h
theorem zh9 {p : Prop} (h : p := by repeat (first | exact (Kd.C_below HR0_2.out HB.out) | (with_reducible refine Kd.C_alloc ?_ _) | (with_reducible refine Kd.C_drewN ?_ _) | (with_reducible refine Kd.C_drew ?_))) : p := h
theorem zh10 {p : Prop} (h : p := by first | exact HNB284.out | exact Nat.le_trans HNB284.out (by simp)) : p := h
theorem zh11 {p : Prop} (h : p := by first | exact BK266.out | ((with_reducible repeat (first | refine blk_drewN ?_ _ | refine blk_drew ?_ | refine blk_alloc ?_ _)); exact BK266.out)) : p := h
theorem zh12 {p : Prop} (h : p := by first | exact HO_36.out | ((with_reducible repeat (first | apply Kd.R_alloc | apply Kd.R_drewN | apply Kd.R_drew)); exact HO_36.out)) : p := h
theorem zh13 {p : Prop} (h : p := by (try simp only [hl43_3]); first | exact BK266.out | ((with_reducible repeat (first | refine blk_drewN ?_ _ | refine blk_drew ?_ | refine blk_alloc ?_ _)); exact BK266.out)) : p := h
theorem zh14 {p : Prop} (h : p := by (try simp only [hl43_3]); first | exact BK257.out | ((with_reducible repeat (first | refine blk_drewN ?_ _ | refine blk_drew ?_ | refine blk_alloc ?_ _)); exact BK257.out)) : p := h
theorem zh15 {p : Prop} (h : p := by (try simp only [hl43_3]); first | exact BK256.out | ((with_reducible repeat (first | refine blk_drewN ?_ _ | refine blk_drew ?_ | refine blk_alloc ?_ _)); exact BK256.out)) : p := h
theorem zh16 {p : Prop} (h : p := by (try simp only [List.map_toArray, List.map_cons, List.map_nil]); first | done | rfl | (simp only [List.length_drop, List.length_take]; rfl)) : p := h
theorem zh17 {p : Prop} (h : p := by (try simp only [hl43_3]); first | exact HO_267005.out | ((with_reducible repeat (first | apply Kd.R_alloc | apply Kd.R_drewN | apply Kd.R_drew)); exact HO_267005.out)) : p := h
theorem zh18 {p : Prop} (h : p := by (try simp only [hl43_3]); first | exact HO_36.out | ((with_reducible repeat (first | apply Kd.R_alloc | apply Kd.R_drewN | apply Kd.R_drew)); exact HO_36.out)) : p := h
theorem zh19 {p : Prop} (h : p := by first | exact HO262.out | ((with_reducible repeat (first | apply Kd.R_alloc | apply Kd.R_drewN | apply Kd.R_drew)); exact HO262.out)) : p := h
theorem zh20 {p : Prop} (h : p := by (try simp only [hl43_3]); first | exact HO_267006.out | ((with_reducible repeat (first | apply Kd.S_alloc | apply Kd.S_drewN | apply Kd.S_drew)); exact HO_267006.out)) : p := h
theorem zh21 {p : Prop} (h : p := by (try simp only [hl43_3]); first | exact HO_43.out | ((with_reducible repeat (first | apply Kd.S_alloc | apply Kd.S_drewN | apply Kd.S_drew)); exact HO_43.out)) : p := h
theorem zh22 {p : Prop} (h : p := by first | rfl | (simp; done) | (simp [*]; done)) : p := h
theorem zh23 {p : Prop} (h : p := by first | exact HO_43.out | ((with_reducible repeat (first | apply Kd.S_alloc | apply Kd.S_drewN | apply Kd.S_drew)); exact HO_43.out)) : p := h
theorem zh24 {p : Prop} (h : p := by repeat (first | (with_reducible first | exact HB.out | apply below_alloc | apply pw_below_drewN | apply below_drew1 | refine below_set ?_ GE256.out) | exact HB.out)) : p := h
theorem zh25 {p : Prop} (h : p := by have := HJ2.out; have := HK2.out; have := HK3.out; omega) : p := h
theorem zh26 {p : Prop} (h : p := by first | exact HO_267006.out | ((with_reducible repeat (first | apply Kd.S_alloc | apply Kd.S_drewN | apply Kd.S_drew)); exact HO_267006.out)) : p := h
theorem zh27 {p : Prop} (h : p := by repeat (first | (with_reducible first | exact HB.out | apply below_alloc | apply pw_below_drewN | apply below_drew1) | exact HB.out)) : p := h
theorem zh28 {p : Prop} (h : p := by first | (rw [add_block]; exact (fun e_ => ((HL275_0.out.1 _ e_.symm).2) rfl)) | (show some (Addr.add _ _).block ≠ _; rw [add_block]; exact (fun e_ => ((HL275_0.out.1 _ e_.symm).2) rfl)) | exact (fun e_ => ((HL275_0.out.1 _ e_.symm).2) rfl)) : p := h
theorem zh29 {p : Prop} (h : p := by (with_reducible repeat (first | apply Kd.S_alloc | apply Kd.S_drewN | apply Kd.S_drew)); exact Kd.S_mono HO265.out (fun _ hk => hk.2)) : p := h
theorem zh30 {p : Prop} (h : p := by first | exact q271 | exact of_decide_eq_true zh5 | (have e_ := (Kd.S_reads' HO_43.out).1; omega)) : p := h
theorem zh31 {p : Prop} (h : p := by rw [hg]; exact Nat.ne_of_lt (blk_lt (g := gb256) (o := .cells #[.int .i64 a0_0, .int .i64 a0_1, .slice A0_2 l0_2.length c0_2] 31 (0, 0)) zh3)) : p := h
theorem zh32 {p : Prop} (h : p := by rw [hg]; exact Nat.ne_of_gt (blk_lt (g := gb256) (o := .cells #[.int .i64 a0_0, .int .i64 a0_1, .slice A0_2 l0_2.length c0_2] 31 (0, 0)) zh3)) : p := h
/-! ### impl_graphOf: function 31 -/
mutual
def impl_graphOf.j0 : Nat → Bool → Int → Int → List Int → Int → Int → Option (List Int × (List (List Int)) × Bool)
 | 0, _, _, _, _, _, _ => none
 | k + 1, x20, x257000, x257001, x257002, x258000, x258001 => if x20 = true then (some (([] : List Int), ([] : List (List Int)), false)) else ((impl_Board_present.f k x257000 x257001 x257002).bind fun t260 => (if 0 ≤ (wrap64 (x257000 * x257001)) then (if (wrap64 (x257000 * x257001) : Int).toNat ≤ 11728124029610 then (impl_graphOf.l0 k t260 (t260.length : Int) 0 x257000 x257001 x257002 x258000 x258001 x257000 x257001 x257002 x258000 x258001 t260 (List.replicate (wrap64 (x257000 * x257001) : Int).toNat [])) else (none)) else (none)))
def impl_graphOf.l0 : Nat → List Int → Int → Int → Int → Int → List Int → Int → Int → Int → Int → List Int → Int → Int → List Int → List (List Int) → Option (List Int × (List (List Int)) × Bool)
 | 0, _, _, _, _, _, _, _, _, _, _, _, _, _, _, _ => none
 | k + 1, x36, x37, x38, x257000, x257001, x257002, x258000, x258001, x267000, x267001, x267002, x267003, x267004, x267005, x267006 => if x38 < x37 then (if 0 ≤ x38 then (if x38 < (x36.length : Int) then ((impl_Leaper_steps.f k x258000 x258001).bind fun t268 => (impl_graphOf.l1 k (rd x36 x38) x36 x37 x38 t268 (t268.length : Int) 0 x257000 x257001 x257002 x258000 x258001 x267000 x267001 x267002 x267003 x267004 x267005 x267006)) else (none)) else (none)) else (some (x267005, x267006, true))
def impl_graphOf.l1 : Nat → Int → List Int → Int → Int → List (List Int) → Int → Int → Int → Int → List Int → Int → Int → Int → Int → List Int → Int → Int → List Int → List (List Int) → Option (List Int × (List (List Int)) × Bool)
 | 0, _, _, _, _, _, _, _, _, _, _, _, _, _, _, _, _, _, _, _ => none
 | k + 1, x8, x36, x37, x38, x43, x44, x45, x257000, x257001, x257002, x258000, x258001, x267000, x267001, x267002, x267003, x267004, x267005, x267006 => if x45 < x44 then (if 0 ≤ x45 then (if x45 < (x43.length : Int) then (if x257000 = 0 then (none) else (if 0 < ((rd_L1 x43 x45).length : Int) then (if 1 < ((rd_L1 x43 x45).length : Int) then (if (wrap64 ((Int.tmod x8 x257000) + (rd (rd_L1 x43 x45) 0))) ≥ 0 then (if (wrap64 ((Int.tmod x8 x257000) + (rd (rd_L1 x43 x45) 0))) < x257000 then (if (wrap64 ((wrap64 (Int.tdiv x8 x257000)) + (rd (rd_L1 x43 x45) 1))) ≥ 0 then (if (wrap64 ((wrap64 (Int.tdiv x8 x257000)) + (rd (rd_L1 x43 x45) 1))) < x257001 then ((impl_Board_has.f k x257000 x257001 x257002 (wrap64 ((wrap64 ((wrap64 ((wrap64 (Int.tdiv x8 x257000)) + (rd (rd_L1 x43 x45) 1))) * x257000)) + (wrap64 ((Int.tmod x8 x257000) + (rd (rd_L1 x43 x45) 0)))))).bind fun t274 => (if t274 = true then (if 0 ≤ x8 then (if x8 < (x267006.length : Int) then (if (rd_L1 x267006 x8).length < 17592186044416 then (impl_graphOf.l1 k x8 x36 x37 x38 x43 x44 (wrap64 (x45 + 1)) x257000 x257001 x257002 x258000 x258001 x267000 x267001 x267002 x267003 x267004 x267005 (x267006.set (x8 : Int).toNat ((rd_L1 x267006 x8) ++ [wrap64 ((wrap64 ((wrap64 ((wrap64 (Int.tdiv x8 x257000)) + (rd (rd_L1 x43 x45) 1))) * x257000)) + (wrap64 ((Int.tmod x8 x257000) + (rd (rd_L1 x43 x45) 0))))]))) else (none)) else (none)) else (none)) else (impl_graphOf.l1 k x8 x36 x37 x38 x43 x44 (wrap64 (x45 + 1)) x257000 x257001 x257002 x258000 x258001 x267000 x267001 x267002 x267003 x267004 x267005 x267006))) else (impl_graphOf.l1 k x8 x36 x37 x38 x43 x44 (wrap64 (x45 + 1)) x257000 x257001 x257002 x258000 x258001 x267000 x267001 x267002 x267003 x267004 x267005 x267006)) else (impl_graphOf.l1 k x8 x36 x37 x38 x43 x44 (wrap64 (x45 + 1)) x257000 x257001 x257002 x258000 x258001 x267000 x267001 x267002 x267003 x267004 x267005 x267006)) else (impl_graphOf.l1 k x8 x36 x37 x38 x43 x44 (wrap64 (x45 + 1)) x257000 x257001 x257002 x258000 x258001 x267000 x267001 x267002 x267003 x267004 x267005 x267006)) else (impl_graphOf.l1 k x8 x36 x37 x38 x43 x44 (wrap64 (x45 + 1)) x257000 x257001 x257002 x258000 x258001 x267000 x267001 x267002 x267003 x267004 x267005 x267006)) else (none)) else (none))) else (none)) else (none)) else (if 0 ≤ x8 then (if x8 < (x267006.length : Int) then (if (rd_L1 x267006 x8).length < 4611686018427387904 then (impl_graphOf.l0 k x36 x37 (wrap64 (x38 + 1)) x257000 x257001 x257002 x258000 x258001 x267000 x267001 x267002 x267003 x267004 x267005 (x267006.set (x8 : Int).toNat (sortL (rd_L1 x267006 x8)))) else (none)) else (none)) else (none))
end
def impl_graphOf.f (k : Nat) (a0_0 : Int) (a0_1 : Int) (l0_2 : List Int) (a1_0 : Int) (a1_1 : Int) : Option (List Int × (List (List Int)) × Bool) := (impl_IsBoard.f k a0_0 a0_1 l0_2).bind fun t258 => (if t258 = true then ((impl_IsLeaper.f a1_0 a1_1).bind fun t259 => (impl_graphOf.j0 k (!t259) a0_0 a0_1 l0_2 a1_0 a1_1)) else (impl_graphOf.j0 k true a0_0 a0_1 l0_2 a1_0 a1_1))
theorem impl_graphOf.mono_l : ∀ k, (∀ y0 y1 y2 y3 y4 y5, LeO (impl_graphOf.j0 k y0 y1 y2 y3 y4 y5) (impl_graphOf.j0 (k + 1) y0 y1 y2 y3 y4 y5)) ∧ (∀ y0 y1 y2 y3 y4 y5 y6 y7 y8 y9 y10 y11 y12 y13 y14, LeO (impl_graphOf.l0 k y0 y1 y2 y3 y4 y5 y6 y7 y8 y9 y10 y11 y12 y13 y14) (impl_graphOf.l0 (k + 1) y0 y1 y2 y3 y4 y5 y6 y7 y8 y9 y10 y11 y12 y13 y14)) ∧ (∀ y0 y1 y2 y3 y4 y5 y6 y7 y8 y9 y10 y11 y12 y13 y14 y15 y16 y17 y18, LeO (impl_graphOf.l1 k y0 y1 y2 y3 y4 y5 y6 y7 y8 y9 y10 y11 y12 y13 y14 y15 y16 y17 y18) (impl_graphOf.l1 (k + 1) y0 y1 y2 y3 y4 y5 y6 y7 y8 y9 y10 y11 y12 y13 y14 y15 y16 y17 y18))
 | 0 => ⟨fun _ _ _ _ _ _ r h => by simp [impl_graphOf.j0] at h, fun _ _ _ _ _ _ _ _ _ _ _ _ _ _ _ r h => by simp [impl_graphOf.l0] at h, fun _ _ _ _ _ _ _ _ _ _ _ _ _ _ _ _ _ _ _ r h => by simp [impl_graphOf.l1] at h⟩
 | k + 1 => by
  obtain ⟨ih0, ih1, ih2⟩ := impl_graphOf.mono_l k
  refine ⟨?_, ?_, ?_⟩
  ·intro y0 y1 y2 y3 y4 y5
   unfold impl_graphOf.j0
   repeat' first
   | (with_reducible exact ih0 _ _ _ _ _ _)
   | (with_reducible exact ih1 _ _ _ _ _ _ _ _ _ _ _ _ _ _ _)
   | (with_reducible exact ih2 _ _ _ _ _ _ _ _ _ _ _ _ _ _ _ _ _ _ _)
   | (with_reducible exact impl_Board_has.mono _ _ _ _ _)
   | (with_reducible exact impl_Board_present.mono _ _ _ _)
   | (with_reducible exact impl_IsBoard.mono _ _ _ _)
   | (with_reducible exact impl_Leaper_steps.mono _ _ _)
   | (with_reducible exact LeO.refl _)
   | (with_reducible exact LeO.none _)
   | (with_reducible refine LeO.ite ?_ ?_)
   | (with_reducible refine LeO.bind ?_ (fun _ => ?_))
   | exact ih0 _ _ _ _ _ _
   | exact ih1 _ _ _ _ _ _ _ _ _ _ _ _ _ _ _
   | exact ih2 _ _ _ _ _ _ _ _ _ _ _ _ _ _ _ _ _ _ _
   | exact impl_Board_has.mono _ _ _ _ _
   | exact impl_Board_present.mono _ _ _ _
   | exact impl_IsBoard.mono _ _ _ _
   | exact impl_Leaper_steps.mono _ _ _
   | exact LeO.none _
   | refine LeO.ite ?_ ?_
   | refine LeO.bind ?_ (fun _ => ?_)
  ·intro y0 y1 y2 y3 y4 y5 y6 y7 y8 y9 y10 y11 y12 y13 y14
   unfold impl_graphOf.l0
   repeat' first
   | (with_reducible exact ih0 _ _ _ _ _ _)
   | (with_reducible exact ih1 _ _ _ _ _ _ _ _ _ _ _ _ _ _ _)
   | (with_reducible exact ih2 _ _ _ _ _ _ _ _ _ _ _ _ _ _ _ _ _ _ _)
   | (with_reducible exact impl_Board_has.mono _ _ _ _ _)
   | (with_reducible exact impl_Board_present.mono _ _ _ _)
   | (with_reducible exact impl_IsBoard.mono _ _ _ _)
   | (with_reducible exact impl_Leaper_steps.mono _ _ _)
   | (with_reducible exact LeO.refl _)
   | (with_reducible exact LeO.none _)
   | (with_reducible refine LeO.ite ?_ ?_)
   | (with_reducible refine LeO.bind ?_ (fun _ => ?_))
   | exact ih0 _ _ _ _ _ _
   | exact ih1 _ _ _ _ _ _ _ _ _ _ _ _ _ _ _
   | exact ih2 _ _ _ _ _ _ _ _ _ _ _ _ _ _ _ _ _ _ _
   | exact impl_Board_has.mono _ _ _ _ _
   | exact impl_Board_present.mono _ _ _ _
   | exact impl_IsBoard.mono _ _ _ _
   | exact impl_Leaper_steps.mono _ _ _
   | exact LeO.none _
   | refine LeO.ite ?_ ?_
   | refine LeO.bind ?_ (fun _ => ?_)
  ·intro y0 y1 y2 y3 y4 y5 y6 y7 y8 y9 y10 y11 y12 y13 y14 y15 y16 y17 y18
   unfold impl_graphOf.l1
   repeat' first
   | (with_reducible exact ih0 _ _ _ _ _ _)
   | (with_reducible exact ih1 _ _ _ _ _ _ _ _ _ _ _ _ _ _ _)
   | (with_reducible exact ih2 _ _ _ _ _ _ _ _ _ _ _ _ _ _ _ _ _ _ _)
   | (with_reducible exact impl_Board_has.mono _ _ _ _ _)
   | (with_reducible exact impl_Board_present.mono _ _ _ _)
   | (with_reducible exact impl_IsBoard.mono _ _ _ _)
   | (with_reducible exact impl_Leaper_steps.mono _ _ _)
   | (with_reducible exact LeO.refl _)
   | (with_reducible exact LeO.none _)
   | (with_reducible refine LeO.ite ?_ ?_)
   | (with_reducible refine LeO.bind ?_ (fun _ => ?_))
   | exact ih0 _ _ _ _ _ _
   | exact ih1 _ _ _ _ _ _ _ _ _ _ _ _ _ _ _
   | exact ih2 _ _ _ _ _ _ _ _ _ _ _ _ _ _ _ _ _ _ _
   | exact impl_Board_has.mono _ _ _ _ _
   | exact impl_Board_present.mono _ _ _ _
   | exact impl_IsBoard.mono _ _ _ _
   | exact impl_Leaper_steps.mono _ _ _
   | exact LeO.none _
   | refine LeO.ite ?_ ?_
   | refine LeO.bind ?_ (fun _ => ?_)
theorem impl_graphOf.mono : ∀ a0 a1 a2 a3 a4 k, LeO (impl_graphOf.f k a0 a1 a2 a3 a4) (impl_graphOf.f (k + 1) a0 a1 a2 a3 a4) := by
 intro a0 a1 a2 a3 a4 k
 obtain ⟨ih0, ih1, ih2⟩ := impl_graphOf.mono_l k
 unfold impl_graphOf.f
 repeat' first
   | (with_reducible exact ih0 _ _ _ _ _ _)
   | (with_reducible exact ih1 _ _ _ _ _ _ _ _ _ _ _ _ _ _ _)
   | (with_reducible exact ih2 _ _ _ _ _ _ _ _ _ _ _ _ _ _ _ _ _ _ _)
   | (with_reducible exact impl_Board_has.mono _ _ _ _ _)
   | (with_reducible exact impl_Board_present.mono _ _ _ _)
   | (with_reducible exact impl_IsBoard.mono _ _ _ _)
   | (with_reducible exact impl_Leaper_steps.mono _ _ _)
   | (with_reducible exact LeO.refl _)
   | (with_reducible exact LeO.none _)
   | (with_reducible refine LeO.ite ?_ ?_)
   | (with_reducible refine LeO.bind ?_ (fun _ => ?_))
   | exact ih0 _ _ _ _ _ _
   | exact ih1 _ _ _ _ _ _ _ _ _ _ _ _ _ _ _
   | exact ih2 _ _ _ _ _ _ _ _ _ _ _ _ _ _ _ _ _ _ _
   | exact impl_Board_has.mono _ _ _ _ _
   | exact impl_Board_present.mono _ _ _ _
   | exact impl_IsBoard.mono _ _ _ _
   | exact impl_Leaper_steps.mono _ _ _
   | exact LeO.none _
   | refine LeO.ite ?_ ?_
   | refine LeO.bind ?_ (fun _ => ?_)
def impl_graphOf.T3 : Bool × List (List Nat × List Nat) := (true, [([], []), ([], []), ([], []), ([2], [2]), ([], []), ([4], [4]), ([], []), ([6], [6]), ([5, 7], [5, 7]), ([8, 8], [8]), ([0, 1, 3, 9], [0, 1, 3, 9]), ([10], [10]), ([11, 3, 0, 1, 2, 3, 4, 5, 6, 7, 8, 9, 10, 11], [11])])
def impl_graphOf.B3 : List Nat := [0, 0, 0, 4, 0, 16, 0, 64, 240, 496, 1023, 2047, 4095]
theorem impl_graphOf.tab3 : rtab .any (opsOf Try.f31 3) = impl_graphOf.T3 := by kernel_rfl
theorem impl_graphOf.bits3 : waitsOk impl_graphOf.T3.2 impl_graphOf.B3 = true := by kernel_rfl
def impl_graphOf.T10 : Bool × List (List Nat × List Nat) := (true, [([], []), ([], []), ([1], [1]), ([0, 2], [0, 2]), ([], []), ([4], [4]), ([5], [5]), ([3, 6], [3, 6]), ([], []), ([], []), ([9], [9]), ([8, 10], [8, 10]), ([], []), ([12], [12]), ([13], [13]), ([11, 14], [11, 14]), ([7, 0, 1, 2, 3, 4, 5, 6, 7], [7]), ([15, 16, 0, 1, 2, 3, 4, 5, 6, 7, 8, 9, 10, 11, 12, 13, 14, 15, 16], [15])])
def impl_graphOf.B10 : List Nat := [0, 0, 2, 7, 0, 16, 48, 127, 0, 0, 512, 1792, 0, 4096, 12288, 32512, 255, 131071]
theorem impl_graphOf.tab10 : rtab .any (opsOf Try.f31 10) = impl_graphOf.T10 := by kernel_rfl
theorem impl_graphOf.bits10 : waitsOk impl_graphOf.T10.2 impl_graphOf.B10 = true := by kernel_rfl
def impl_graphOf.T12 : Bool × List (List Nat × List Nat) := (true, [([], []), ([0], [0]), ([1], [1]), ([2], [2]), ([], []), ([], []), ([5], [5]), ([6], [6]), ([7], [7]), ([], []), ([8, 9], [8, 9]), ([10], [10]), ([], []), ([], []), ([13], [13]), ([12, 14], [12, 14]), ([], []), ([15, 16], [15, 16]), ([17], [17]), ([11, 18], [11, 18]), ([3, 4, 0, 1, 2, 3, 4, 5, 6, 7, 8, 9, 10, 11, 12, 13, 14, 15, 16, 17, 18, 19], [3, 4]), ([20, 19, 19, 0, 1, 2, 3, 4, 5, 6, 7, 8, 9, 10, 11, 12, 13, 14, 15, 16, 17, 18, 19], [19, 20])])
def impl_graphOf.B12 : List Nat := [0, 1, 3, 7, 0, 0, 32, 96, 224, 0, 992, 2016, 0, 0, 8192, 28672, 0, 126976, 258048, 524256, 1048575, 2097151]
theorem impl_graphOf.tab12 : rtab .any (opsOf Try.f31 12) = impl_graphOf.T12 := by kernel_rfl
theorem impl_graphOf.bits12 : waitsOk impl_graphOf.T12.2 impl_graphOf.B12 = true := by kernel_rfl
set_option maxHeartbeats 8000000 in
set_option maxRecDepth 100000 in
theorem impl_graphOf.calls (k : Nat) (a0_0 : Int) (a0_1 : Int) (A0_2 : Option Addr) (c0_2 : Nat) (l0_2 : List Int) (a1_0 : Int) (a1_1 : Int) (r1 : List Int) (r2 : List (List Int)) (r3 : Bool) (w : World) (hr0_2 : Kd.C (Kd.int .i64) w A0_2 l0_2.length l0_2) (hc0_2 : l0_2.length ≤ c0_2) (h : impl_graphOf.f k a0_0 a0_1 l0_2 a1_0 a1_1 = some (r1, r2, r3)) :
  Calls Try.prog 31 #[.agg #[.int .i64 a0_0, .int .i64 a0_1, .slice A0_2 l0_2.length c0_2], .agg #[.int .i64 a1_0, .int .i64 a1_1]] w fun e w' => ∃ v0_ v1_ : Value, ∃ pv_ : Value, e = .returned (.tuple #[pv_, .bool r3]) ∧ GPT r3 pv_ w w' #[.int .i64 a0_0, .int .i64 a0_1, .slice A0_2 l0_2.length c0_2, .int .i64 a1_0, .int .i64 a1_1, v0_, v1_] ∧ Kd.R (Kd.int .i64) 3 w' w.heap.size (fun _ => True) v0_ r1 ∧ Kd.S (Kd.slice 3 (Kd.int .i64)) 22 w' w.heap.size (fun k_ => some k_ ≠ (v0_ : Value).ownBlock) v1_ r2 ∧ Below w.heap.size w w' := by
 have hu31 := Try.underlying31
 have hu33 := Try.underlying33
 have hu59 := Try.underlying59
 have HR0_2 := Aside0.mk hr0_2
 have HC0_2 := Aside0.mk hc0_2
 clear hr0_2 hc0_2
 have HB := Aside0.mk (Below.refl w.heap.size w)
 have H : ((impl_IsBoard.f k a0_0 a0_1 l0_2).bind fun t258 => (if t258 = true then ((impl_IsLeaper.f a1_0 a1_1).bind fun t259 => (impl_graphOf.j0 k (!t259) a0_0 a0_1 l0_2 a1_0 a1_1)) else (impl_graphOf.j0 k true a0_0 a0_1 l0_2 a1_0 a1_1))) = some (r1, r2, r3) := h
 clear h
 have HC3 := Aside0.mk H
 clear H
 go_enter Try.func31, Try.ntmps31
 go_upto_region 1 with (first | ((with_reducible refine gate_dst (N := 2) rfl ?_); refine box_event ?hg (N := 2) ?hd (cs := #[.int .i64 a0_0, .int .i64 a0_1, .slice A0_2 l0_2.length c0_2]) (t := 31) ?hr ?_; (case hd => rfl); (case hg => rfl); (case hr => first | (go_simp; done) | (go_simp; rfl)); intro gb256 hg w4 hbox hb; have n0_ := Aside0.mk (below_step zh27 hb); have n1_ := Aside0.mk (hbox); have n2_ := Aside0.mk ((by rw [hg]; exact (below_size zh27) : w.heap.size ≤ gb256)); have n3_ := Aside0.mk ((by rw [hg]; exact (below_size zh27) : w.heap.size ≤ gb256)); clear HB; have HB := n0_; have BK256 := n1_; have GW256 := n2_; have GE256 := n3_; clear n0_ n1_ n2_ n3_; clear hb hbox hg) | ((with_reducible refine gate_dst (N := 3) rfl ?_); refine box_event ?hg (N := 3) ?hd (cs := #[.int .i64 a1_0, .int .i64 a1_1]) (t := 33) ?hr ?_; (case hd => rfl); (case hg => rfl); (case hr => first | (go_simp; done) | (go_simp; rfl)); intro gb257 hg w5 hbox hb; have n0_ := Aside0.mk (blk_below (g := gb256) (o := .cells #[.int .i64 a0_0, .int .i64 a0_1, .slice A0_2 l0_2.length c0_2] 31 (0, 0)) zh3 hb); have n1_ := Aside0.mk (below_step zh24 hb); have n2_ := Aside0.mk (hbox); have n3_ := Aside0.mk ((by rw [hg]; exact (below_size zh24) : w.heap.size ≤ gb257)); have n4_ := Aside0.mk ((by rw [hg]; exact (below_size zh24) : w.heap.size ≤ gb257)); have n5_ := Aside0.mk ((zh31 : gb256 ≠ gb257)); have n6_ := Aside0.mk ((zh32 : gb257 ≠ gb256)); clear BK256; clear HB; have BK256 := n0_; have HB := n1_; have BK257 := n2_; have GW257 := n3_; have GE257 := n4_; have NB256_257 := n5_; have NB257_256 := n6_; clear n0_ n1_ n2_ n3_ n4_ n5_ n6_; clear hb hbox hg))
 (try simp only [Act.put, List.setIfInBounds_toArray, List.set_cons_zero, List.set_cons_succ])
 go_cut [20] (fun v20 wc => ∃ (kq : Nat) (x20_2 : Bool), v20 = .bool x20_2 ∧ Aside0 (impl_graphOf.j0 kq x20_2 a0_0 a0_1 l0_2 a1_0 a1_1 = some (r1, r2, r3)) ∧ Aside0 (kq ≤ k) ∧ Aside0 (wc.heap[gb256]? = some (.cells #[.int .i64 a0_0, .int .i64 a0_1, (.slice A0_2 l0_2.length c0_2)] 31 (0, 0))) ∧ Aside0 (wc.heap[gb257]? = some (.cells #[.int .i64 a1_0, .int .i64 a1_1] 33 (0, 0))) ∧ Aside0 (Below w.heap.size w wc))
 case first =>
  have H := HC3.out
  clear HC3
  replace H := Option.bind_eq_some_iff.mp H
  obtain ⟨t258, A60, H⟩ := H
  replace H : (if t258 = true then ((impl_IsLeaper.f a1_0 a1_1).bind fun t259 => (impl_graphOf.j0 k (!t259) a0_0 a0_1 l0_2 a1_0 a1_1)) else (impl_graphOf.j0 k true a0_0 a0_1 l0_2 a1_0 a1_1)) = some (r1, r2, r3) := H
  have A6 := Aside0.mk A60
  clear A60
  by_cases c7 : t258 = true
  rotate_left
  ·replace c7 := Bool.eq_false_iff.mpr c7
   subst c7
   have H1 : (impl_graphOf.j0 k true a0_0 a0_1 l0_2 a1_0 a1_1) = some (r1, r2, r3) := by rw [if_neg (show ¬ (false = true) by decide)] at H; exact H
   clear H
   have H := H1
   clear H1
   have H' := Aside0.mk H
   clear H
   have hnb14 := NB256_257.out
   have hnc14 := NB257_256.out
   have hcz15_0 : w5.cell? ⟨gb256, 0, none⟩ = some (.int .i64 a0_0) := (blk_cell BK256.out 0).trans rfl
   have hcz15_1 : w5.cell? ⟨gb256, 1, none⟩ = some (.int .i64 a0_1) := (blk_cell BK256.out 1).trans rfl
   have hcz15_2 : w5.cell? ⟨gb256, 2, none⟩ = some (.slice A0_2 l0_2.length c0_2) := (blk_cell BK256.out 2).trans rfl
   have hfz15_0 := blk_frozen BK256.out 0
   have hfz15_1 := blk_frozen BK256.out 1
   have hfz15_2 := blk_frozen BK256.out 2
   go_wp2_with (first | ((with_reducible refine gate_callee (f := 55) rfl ?_); refine goesL_ (some 14) rfl rfl Try.func55 (by kernel_rfl) rfl #[.agg #[.int .i64 a0_0, .int .i64 a0_1, .slice A0_2 l0_2.length c0_2]] rfl zh16 ?_; (with_reducible refine (impl_IsBoard.calls k a0_0 a0_1 _ _ l0_2 false _ ?side1 ?side2 A6.out).mono ?_); (case side1 => exact zh9); (case side2 => exact HC0_2.out); rintro e w16 ⟨rfl, hb⟩; refine ⟨_, rfl, ?_⟩; have n0_ := Aside0.mk (blk_below (g := gb256) (o := .cells #[.int .i64 a0_0, .int .i64 a0_1, .slice A0_2 l0_2.length c0_2] 31 (0, 0)) zh3 hb); have n1_ := Aside0.mk (blk_below (g := gb257) (o := .cells #[.int .i64 a1_0, .int .i64 a1_1] 33 (0, 0)) zh6 hb); have n2_ := Aside0.mk (below_step zh2 hb); clear BK256; clear BK257; clear HB; have BK256 := n0_; have BK257 := n1_; have HB := n2_; clear n0_ n1_ n2_; (try clear hb); (try clear hb2); (try clear hk); (try clear hi); (try clear hna_); (try clear hnb_)))
   go_meet
   case rel => exact ⟨_, (true), zh22, H', ⟨by first | omega | exact Nat.le_refl _⟩, ⟨zh3⟩, ⟨zh6⟩, ⟨zh2⟩⟩
  subst c7
  have H1 : ((impl_IsLeaper.f a1_0 a1_1).bind fun t259 => (impl_graphOf.j0 k (!t259) a0_0 a0_1 l0_2 a1_0 a1_1)) = some (r1, r2, r3) := by rw [if_pos rfl] at H; exact H
  clear H
  have H := H1
  clear H1
  replace H := Option.bind_eq_some_iff.mp H
  obtain ⟨t259, A80, H⟩ := H
  replace H : (impl_graphOf.j0 k (!t259) a0_0 a0_1 l0_2 a1_0 a1_1) = some (r1, r2, r3) := H
  have A8 := Aside0.mk A80
  clear A80
  have H' := Aside0.mk H
  clear H
  have hnb9 := NB256_257.out
  have hnc9 := NB257_256.out
  have hcz10_0 : w5.cell? ⟨gb256, 0, none⟩ = some (.int .i64 a0_0) := (blk_cell BK256.out 0).trans rfl
  have hcz10_1 : w5.cell? ⟨gb256, 1, none⟩ = some (.int .i64 a0_1) := (blk_cell BK256.out 1).trans rfl
  have hcz10_2 : w5.cell? ⟨gb256, 2, none⟩ = some (.slice A0_2 l0_2.length c0_2) := (blk_cell BK256.out 2).trans rfl
  have hfz10_0 := blk_frozen BK256.out 0
  have hfz10_1 := blk_frozen BK256.out 1
  have hfz10_2 := blk_frozen BK256.out 2
  go_wp2_with (first | ((with_reducible refine gate_callee (f := 55) rfl ?_); refine goesL_ (some 14) rfl rfl Try.func55 (by kernel_rfl) rfl #[.agg #[.int .i64 a0_0, .int .i64 a0_1, .slice A0_2 l0_2.length c0_2]] rfl zh16 ?_; (with_reducible refine (impl_IsBoard.calls k a0_0 a0_1 _ _ l0_2 true _ ?side1 ?side2 A6.out).mono ?_); (case side1 => exact zh9); (case side2 => exact HC0_2.out); rintro e w11 ⟨rfl, hb⟩; refine ⟨_, rfl, ?_⟩; have n0_ := Aside0.mk (blk_below (g := gb256) (o := .cells #[.int .i64 a0_0, .int .i64 a0_1, .slice A0_2 l0_2.length c0_2] 31 (0, 0)) zh3 hb); have n1_ := Aside0.mk (blk_below (g := gb257) (o := .cells #[.int .i64 a1_0, .int .i64 a1_1] 33 (0, 0)) zh6 hb); have n2_ := Aside0.mk (below_step zh2 hb); clear BK256; clear BK257; clear HB; have BK256 := n0_; have BK257 := n1_; have HB := n2_; clear n0_ n1_ n2_; (try clear hb); (try clear hb2); (try clear hk); (try clear hi); (try clear hna_); (try clear hnb_); have hcz12_0 : w11.cell? ⟨gb257, 0, none⟩ = some (.int .i64 a1_0) := (blk_cell BK257.out 0).trans rfl; have hcz12_1 : w11.cell? ⟨gb257, 1, none⟩ = some (.int .i64 a1_1) := (blk_cell BK257.out 1).trans rfl; have hfz12_0 := blk_frozen BK257.out 0; have hfz12_1 := blk_frozen BK257.out 1) | (go_at_call 56; (with_reducible refine (impl_IsLeaper.calls a1_0 a1_1 t259 _ A8.out).mono ?_); rintro e w13 ⟨rfl, hb⟩; have n0_ := Aside0.mk (blk_below (g := gb256) (o := .cells #[.int .i64 a0_0, .int .i64 a0_1, .slice A0_2 l0_2.length c0_2] 31 (0, 0)) zh3 hb); have n1_ := Aside0.mk (blk_below (g := gb257) (o := .cells #[.int .i64 a1_0, .int .i64 a1_1] 33 (0, 0)) zh6 hb); have n2_ := Aside0.mk (below_step zh2 hb); clear BK256; clear BK257; clear HB; have BK256 := n0_; have BK257 := n1_; have HB := n2_; clear n0_ n1_ n2_; (try clear hb); (try clear hb2); (try clear hk); (try clear hi); (try clear hna_); (try clear hnb_)))
  go_meet
  case rel => exact ⟨_, (!t259), zh22, H', ⟨by first | omega | exact Nat.le_refl _⟩, ⟨zh3⟩, ⟨zh6⟩, ⟨zh2⟩⟩
 case rest =>
  clear HC3
  try clear c1; try clear p2; try clear c3; try clear c5; try clear c7; try clear c9; try clear c14; try clear hcz10_0; try clear hcz10_1; try clear hcz10_2; try clear hcz12_0; try clear hcz12_1; try clear hcz15_0; try clear hcz15_1; try clear hcz15_2; try clear hfz10_0; try clear hfz10_1; try clear hfz10_2; try clear hfz12_0; try clear hfz12_1; try clear hfz15_0; try clear hfz15_1; try clear hfz15_2
  obtain ⟨kq, x20_2, rfl, HA, HJ2, BK256, BK257, HB⟩ := hcut
  cases kq with
  | zero => exact absurd HA.out (by simp [impl_graphOf.j0])
  | succ kj2 =>
   have H := HA.out
   clear HA
   simp only [impl_graphOf.j0] at H
   by_cases c17 : x20_2 = true
   ·subst c17
    have H1 : (some (([] : List Int), ([] : List (List Int)), false)) = some (r1, r2, r3) := by rw [if_pos rfl] at H; exact H
    clear H
    have H := H1
    clear H1
    simp only [Option.some.injEq, Prod.mk.injEq] at H
    obtain ⟨rfl, rfl, rfl⟩ := H
    go_wp2
    go_ret2
    exact ⟨_, _, _, by first | rfl | (simp [errW_none, errW_some] <;> rfl) | (simp [*, errW_none, errW_some] <;> rfl), ⟨(fun h_ => by cases h_), fun _ => rfl⟩, by first | exact Kd.R_nil _ _ _ _ _ | exact Kd.N_nil _ _ _ _ _ | exact Kd.V_nil _ _ _ _ _ | exact Kd.Q_nil _ _ _ _ _ | exact Kd.S_nil _ _ _ _ _, by first | exact Kd.S_nil _ _ _ _ _ | exact Kd.N_nil _ _ _ _ _ | exact Kd.V_nil _ _ _ _ _ | exact Kd.Q_nil _ _ _ _ _ | exact Kd.R_nil _ _ _ _ _, zh2⟩
   replace c17 := Bool.eq_false_iff.mpr c17
   subst c17
   have H1 : ((impl_Board_present.f kj2 a0_0 a0_1 l0_2).bind fun t260 => (if 0 ≤ (wrap64 (a0_0 * a0_1)) then (if (wrap64 (a0_0 * a0_1) : Int).toNat ≤ 11728124029610 then (impl_graphOf.l0 kj2 t260 (t260.length : Int) 0 a0_0 a0_1 l0_2 a1_0 a1_1 a0_0 a0_1 l0_2 a1_0 a1_1 t260 (List.replicate (wrap64 (a0_0 * a0_1) : Int).toNat [])) else (none)) else (none))) = some (r1, r2, r3) := by rw [if_neg (show ¬ (false = true) by decide)] at H; exact H
   clear H
   have H := H1
   clear H1
   replace H := Option.bind_eq_some_iff.mp H
   obtain ⟨t260, A180, H⟩ := H
   replace H : (if 0 ≤ (wrap64 (a0_0 * a0_1)) then (if (wrap64 (a0_0 * a0_1) : Int).toNat ≤ 11728124029610 then (impl_graphOf.l0 kj2 t260 (t260.length : Int) 0 a0_0 a0_1 l0_2 a1_0 a1_1 a0_0 a0_1 l0_2 a1_0 a1_1 t260 (List.replicate (wrap64 (a0_0 * a0_1) : Int).toNat [])) else (none)) else (none)) = some (r1, r2, r3) := H
   have A18 := Aside0.mk A180
   clear A180
   obtain ⟨ji19, hji19⟩ : ∃ j_ : Int, (wrap64 (a0_0 * a0_1)) = j_ := ⟨_, rfl⟩
   replace H : (if 0 ≤ (ji19) then (if (ji19 : Int).toNat ≤ 11728124029610 then (impl_graphOf.l0 kj2 t260 (t260.length : Int) 0 a0_0 a0_1 l0_2 a1_0 a1_1 a0_0 a0_1 l0_2 a1_0 a1_1 t260 (List.replicate (ji19 : Int).toNat [])) else (none)) else (none)) = some (r1, r2, r3) := by first | (rw [hji19] at H; exact H) | (simp only [hji19] at H ⊢; exact H)
   (try rw [hji19] at A18)
   have hji19w : (IntKind.i64.wrap (a0_0 * a0_1)) = ji19 := (i64_w _).trans hji19
   by_cases c20 : 0 ≤ (ji19)
   rotate_left
   ·rw [if_neg c20] at H
    exact absurd H (by simp)
   rw [if_pos c20] at H
   have c20b0 := eq_true c20
   have c20b1 : decide (0 ≤ (ji19)) = true := decide_eq_true c20
   clear c20
   by_cases c21 : (ji19 : Int).toNat ≤ 11728124029610
   rotate_left
   ·rw [if_neg c21] at H
    exact absurd H (by simp)
   rw [if_pos c21] at H
   have c21b0 := eq_true c21
   have c21b1 : decide ((ji19 : Int).toNat ≤ 11728124029610) = true := decide_eq_true c21
   clear c21
   obtain ⟨y263, hy263⟩ : ∃ y_ : List (List Int), y_ = (List.replicate (ji19 : Int).toNat []) := ⟨_, rfl⟩
   replace H : (impl_graphOf.l0 kj2 t260 (t260.length : Int) 0 a0_0 a0_1 l0_2 a1_0 a1_1 a0_0 a0_1 l0_2 a1_0 a1_1 t260 y263) = some (r1, r2, r3) := by first | (rw [hy263]; with_reducible exact H) | (have H2_ := (Option.bind_some _ _).symm.trans H; rw [hy263]; with_reducible exact H2_) | (have H2_ := (Option.bind_some _ _).symm.trans H; with_reducible exact H2_) | with_reducible exact H | (rw [hy263]; exact H) | exact H
   have Ny263 := Aside0.mk hy263
   clear hy263
   have H' := Aside0.mk H
   clear H
   try go_wp2
   have n0_ := Aside0.mk (blk_drew BK256.out)
   have n1_ := Aside0.mk (blk_drew BK257.out)
   have n2_ := Aside0.mk (below_drew1 HB.out)
   clear BK256
   clear BK257
   clear HB
   have BK256 := n0_
   have BK257 := n1_
   have HB := n2_
   clear n0_ n1_ n2_
   refine start_ (n := 13) (S := fun w' => w'.cell? ⟨gb256, 0, none⟩ = some (.int .i64 a0_0) ∧ w'.cell? ⟨gb256, 1, none⟩ = some (.int .i64 a0_1) ∧ w'.cell? ⟨gb256, 2, none⟩ = some (.slice A0_2 l0_2.length c0_2) ∧ w'.cell? ⟨gb257, 0, none⟩ = some (.int .i64 a1_0) ∧ w'.cell? ⟨gb257, 1, none⟩ = some (.int .i64 a1_1)) (ds := []) #[false, false, false, false, false, false, false, false, false, false, false, false, false] (by kernel_rfl) rfl rfl ⟨(blk_cell BK256.out 0).trans rfl, (blk_cell BK256.out 1).trans rfl, (blk_cell BK256.out 2).trans rfl, (blk_cell BK257.out 0).trans rfl, (blk_cell BK257.out 1).trans rfl⟩ (fun hHeld => ?_); refine with_tabW impl_graphOf.tab3 impl_graphOf.bits3 (fun HT_ HW_ => ?_)
   generalize wc.drew = w22 at BK256 BK257 HB hHeld ⊢
   refine pure_ (i := 4) (N := some 25) (v := ?_) (a' := ?_) #[false, false, false, false, true, false, false, false, false, false, false, false, false] rfl rfl (any_of HT_.out (by kernel_rfl)) (fun _ _ _ h => h) (Or.inl ⟨by rfl, ?_⟩) ?_ ?_
   rotate_left
   ·intro w'
    go_simp
    with_reducible rfl
   rotate_left
   ·simp only [Act.put, List.setIfInBounds_toArray, List.set_cons_zero, List.set_cons_succ, i64_w, i32_w]
    rfl
   refine pure_ (i := 6) (N := some 27) (v := ?_) (a' := ?_) #[false, false, false, false, true, false, true, false, false, false, false, false, false] rfl rfl (any_of HT_.out (by kernel_rfl)) (fun _ _ _ h => h) (Or.inl ⟨by rfl, ?_⟩) ?_ ?_
   rotate_left
   ·intro w'
    go_simp
    with_reducible rfl
   rotate_left
   ·simp only [Act.put, List.setIfInBounds_toArray, List.set_cons_zero, List.set_cons_succ, i64_w, i32_w]
    rfl
   refine take_ (i := 0) (N := some 21) (v := ?_) (a' := ?_) #[true, false, false, false, true, false, true, false, false, false, false, false, false] rfl rfl (take_ofW HT_.out HW_.out (by kernel_rfl)) (fun _ _ _ h => h) (Or.inl ⟨by rfl, ?_⟩) hHeld ?_ ?_
   rotate_left
   ·rintro w' ⟨s0, s1, s2, s3, s4⟩
    go_simp
    with_reducible rfl
   rotate_left
   ·simp only [Act.put, List.setIfInBounds_toArray, List.set_cons_zero, List.set_cons_succ, i64_w, i32_w]
    rfl
   refine take_ (i := 1) (N := some 22) (v := ?_) (a' := ?_) #[true, true, false, false, true, false, true, false, false, false, false, false, false] rfl rfl (take_ofW HT_.out HW_.out (by kernel_rfl)) (fun _ _ _ h => h) (Or.inl ⟨by rfl, ?_⟩) hHeld ?_ ?_
   rotate_left
   ·rintro w' ⟨s0, s1, s2, s3, s4⟩
    go_simp
    with_reducible rfl
   rotate_left
   ·simp only [Act.put, List.setIfInBounds_toArray, List.set_cons_zero, List.set_cons_succ, i64_w, i32_w]
    rfl
   refine take_ (i := 2) (N := some 23) (v := ?_) (a' := ?_) #[true, true, true, false, true, false, true, false, false, false, false, false, false] rfl rfl (take_ofW HT_.out HW_.out (by kernel_rfl)) (fun _ _ _ h => h) (Or.inl ⟨by rfl, ?_⟩) hHeld ?_ ?_
   rotate_left
   ·rintro w' ⟨s0, s1, s2, s3, s4⟩
    go_simp
    with_reducible rfl
   rotate_left
   ·simp only [Act.put, List.setIfInBounds_toArray, List.set_cons_zero, List.set_cons_succ, i64_w, i32_w]
    rfl
   refine take_ (i := 5) (N := some 26) (v := ?_) (a' := ?_) #[true, true, true, false, true, true, true, false, false, false, false, false, false] rfl rfl (take_ofW HT_.out HW_.out (by kernel_rfl)) (fun _ _ _ h => h) (Or.inl ⟨by rfl, ?_⟩) hHeld ?_ ?_
   rotate_left
   ·rintro w' ⟨s0, s1, s2, s3, s4⟩
    go_simp
    with_reducible rfl
   rotate_left
   ·simp only [Act.put, List.setIfInBounds_toArray, List.set_cons_zero, List.set_cons_succ, i64_w, i32_w]
    rfl
   refine take_ (i := 7) (N := some 28) (v := ?_) (a' := ?_) #[true, true, true, false, true, true, true, true, false, false, false, false, false] rfl rfl (take_ofW HT_.out HW_.out (by kernel_rfl)) (fun _ _ _ h => h) (Or.inl ⟨by rfl, ?_⟩) hHeld ?_ ?_
   rotate_left
   ·rintro w' ⟨s0, s1, s2, s3, s4⟩
    go_simp
    with_reducible rfl
   rotate_left
   ·simp only [Act.put, List.setIfInBounds_toArray, List.set_cons_zero, List.set_cons_succ, i64_w, i32_w]
    rfl
   refine pure_ (i := 8) (N := some 29) (v := ?_) (a' := ?_) #[true, true, true, false, true, true, true, true, true, false, false, false, false] rfl rfl (any_of HT_.out (by kernel_rfl)) (fun _ _ _ h => h) (Or.inl ⟨by rfl, ?_⟩) ?_ ?_
   rotate_left
   ·intro w'
    go_simp
    with_reducible rfl
   rotate_left
   ·simp only [Act.put, List.setIfInBounds_toArray, List.set_cons_zero, List.set_cons_succ, i64_w, i32_w]
    rfl
   refine join_ (σ := Value × Value) 3 #[true, true, true, true, true, true, true, true, true, true, false, false, false] (fun s_ => [(24, s_.1), (30, s_.2)]) (fun s_ w' => (w'.cell? ⟨gb256, 0, none⟩ = some (.int .i64 a0_0) ∧ w'.cell? ⟨gb256, 1, none⟩ = some (.int .i64 a0_1) ∧ w'.cell? ⟨gb256, 2, none⟩ = some (.slice A0_2 l0_2.length c0_2) ∧ w'.cell? ⟨gb257, 0, none⟩ = some (.int .i64 a1_0) ∧ w'.cell? ⟨gb257, 1, none⟩ = some (.int .i64 a1_1)) ∧ (Kd.R (Kd.int .i64) 3 w' w.heap.size (fun _ => True) s_.1 t260) ∧ (Kd.S (Kd.slice 3 (Kd.int .i64)) 22 w' w.heap.size (fun k_ => some k_ ≠ (s_.1 : Value).ownBlock) s_.2 y263) ∧ (w'.heap[gb256]? = some (.cells #[.int .i64 a0_0, .int .i64 a0_1, .slice A0_2 l0_2.length c0_2] 31 (0, 0))) ∧ (w'.heap[gb257]? = some (.cells #[.int .i64 a1_0, .int .i64 a1_1] 33 (0, 0))) ∧ (Below w.heap.size w w')) ?_ ?_
   rotate_left
   ·intro hCont
    refine two_ (i := 3) (j := 9) (Ni := some 24) (Nj := some 30) #[true, true, true, true, true, true, true, true, true, false, false, false, false] #[true, true, true, false, true, true, true, true, true, true, false, false, false] rfl rfl rfl rfl (two_of HT_.out (by kernel_rfl)) (by decide) (by decide) (fun K hK => ?_) (fun K hK => ?_)
    ·skip
     refine goes_ Try.func57 (by kernel_rfl) rfl #[.agg #[.int .i64 a0_0, .int .i64 a0_1, .slice A0_2 l0_2.length c0_2]] (by rfl) rfl rfl zh16 ?_
     with_reducible refine (impl_Board_present.calls kj2 a0_0 a0_1 _ _ l0_2 t260 _ ?side1 ?side2 A18.out).mono ?_
     (case side1 => exact zh9)
     (case side2 => exact HC0_2.out)
     rintro e w23 ⟨v261, rfl, ho0, hb⟩
     refine ⟨_, rfl, ?_⟩
     have n0_ := Aside0.mk (Kd.R_lower ho0 (below_size zh2))
     have n1_ := Aside0.mk (blk_below (g := gb256) (o := .cells #[.int .i64 a0_0, .int .i64 a0_1, .slice A0_2 l0_2.length c0_2] 31 (0, 0)) zh3 hb)
     have n2_ := Aside0.mk (blk_below (g := gb257) (o := .cells #[.int .i64 a1_0, .int .i64 a1_1] 33 (0, 0)) zh6 hb)
     have n3_ := Aside0.mk (below_step zh2 hb)
     clear BK256
     clear BK257
     clear HB
     have HO262 := n0_
     have BK256 := n1_
     have BK257 := n2_
     have HB := n3_
     clear n0_ n1_ n2_ n3_
     (try clear hb)
     (try clear hb2)
     (try clear hk)
     (try clear hi)
     (try clear ho0)
     (try clear hna_)
     (try clear hnb_)
     refine hK.out _ _ ⟨(blk_cell BK256.out 0).trans rfl, (blk_cell BK256.out 1).trans rfl, (blk_cell BK256.out 2).trans rfl, (blk_cell BK257.out 0).trans rfl, (blk_cell BK257.out 1).trans rfl⟩ (fun hHeld => ?_)
     clear hK K
     refine norm_ (a' := ?_) ?_ ?_
     rotate_left
     ·show Act.put _ (some 24) _ = _
      simp only [Act.put, List.setIfInBounds_toArray, List.set_cons_zero, List.set_cons_succ, i64_w, i32_w]
      rfl
     refine one_ (i := 9) (N := some 30) #[true, true, true, true, true, true, true, true, true, true, false, false, false] rfl rfl (one_of HT_.out (by kernel_rfl)) (by decide) (fun K hK => ?_)
     refine Kd.S_make_step (Kd.slice 3 (Kd.int .i64)) _ 22 (by rfl) (N := 30) rfl 28 _ _ rfl ji19 rfl rfl Try.underlying28 (.slice none 0 0) 24 info22 rfl (by decide) (by omega) [] (ok := fun _ => True) (okp := fun _ => True) ⟨_, rfl, Kd.R_nil _ _ _ _ _⟩ (fun _ hk => hk) trivial (of_decide_eq_true zh5) (Nat.le_trans (Nat.mul_le_mul_right _ (of_decide_eq_true zh5 : ji19.toNat ≤ 11728124029610)) (by omega)) (Below.refl _ _) (Nat.le_refl _) ?_
     intro v264 w24 ho25 hb hg_ hnew_
     clear hg_ hnew_
     (first | rw [← Ny263.out] at ho25 | (simp only [Int.reduceToNat] at ho25; rw [← Ny263.out] at ho25))
     have n0_ := Aside0.mk (Kd.R_below zh19 hb)
     have n1_ := Aside0.mk (Kd.S_lower (Kd.S_new' ho25 (Kd.R_lt zh19)) (below_size zh2))
     have n2_ := Aside0.mk (blk_below (g := gb256) (o := .cells #[.int .i64 a0_0, .int .i64 a0_1, .slice A0_2 l0_2.length c0_2] 31 (0, 0)) zh3 hb)
     have n3_ := Aside0.mk (blk_below (g := gb257) (o := .cells #[.int .i64 a1_0, .int .i64 a1_1] 33 (0, 0)) zh6 hb)
     have n4_ := Aside0.mk (below_step zh2 hb)
     clear HO262
     clear BK256
     clear BK257
     clear HB
     have HO262 := n0_
     have HO265 := n1_
     have BK256 := n2_
     have BK257 := n3_
     have HB := n4_
     clear n0_ n1_ n2_ n3_ n4_
     clear hb ho25
     obtain ⟨Ao26, co26, eo26⟩ := Kd.S_slice HO265.out
     (first | subst eo26 | (injection eo26 with f1_ f2_ f3_; have f4_ := f1_.symm; have f5_ := f3_.symm; clear f1_ f2_ f3_; subst f4_; subst f5_))
     obtain ⟨Ao27, co27, eo27⟩ := Kd.R_slice HO262.out
     (first | subst eo27 | (injection eo27 with f1_ f2_ f3_; have f4_ := f1_.symm; have f5_ := f3_.symm; clear f1_ f2_ f3_; subst f4_; subst f5_))
     refine hK.out _ _ ⟨(blk_cell BK256.out 0).trans rfl, (blk_cell BK256.out 1).trans rfl, (blk_cell BK256.out 2).trans rfl, (blk_cell BK257.out 0).trans rfl, (blk_cell BK257.out 1).trans rfl⟩ (fun hHeld => ?_)
     clear hK K
     refine norm_ (a' := ?_) ?_ ?_
     rotate_left
     ·show Act.put _ (some 30) _ = _
      simp only [Act.put, List.setIfInBounds_toArray, List.set_cons_zero, List.set_cons_succ, i64_w, i32_w]
      rfl
     exact norm_ (by simp only [putAll, Act.put, List.setIfInBounds_toArray, List.set_cons_zero, List.set_cons_succ]) (hCont (.slice Ao27 t260.length co27, .slice Ao26 y263.length co26) _ ⟨hHeld, zh19, zh29, zh3, zh6, zh2⟩)
    skip
    refine Kd.S_make_step (Kd.slice 3 (Kd.int .i64)) _ 22 (by rfl) (N := 30) rfl 28 _ _ rfl ji19 rfl rfl Try.underlying28 (.slice none 0 0) 24 info22 rfl (by decide) (by omega) [] (ok := fun _ => True) (okp := fun _ => True) ⟨_, rfl, Kd.R_nil _ _ _ _ _⟩ (fun _ hk => hk) trivial (of_decide_eq_true zh5) (Nat.le_trans (Nat.mul_le_mul_right _ (of_decide_eq_true zh5 : ji19.toNat ≤ 11728124029610)) (by omega)) (Below.refl _ _) (Nat.le_refl _) ?_
    intro v264 w23 ho24 hb hg_ hnew_
    clear hg_ hnew_
    (first | rw [← Ny263.out] at ho24 | (simp only [Int.reduceToNat] at ho24; rw [← Ny263.out] at ho24))
    have n0_ := Aside0.mk (Kd.S_lower ho24 (below_size zh2))
    have n1_ := Aside0.mk (blk_below (g := gb256) (o := .cells #[.int .i64 a0_0, .int .i64 a0_1, .slice A0_2 l0_2.length c0_2] 31 (0, 0)) zh3 hb)
    have n2_ := Aside0.mk (blk_below (g := gb257) (o := .cells #[.int .i64 a1_0, .int .i64 a1_1] 33 (0, 0)) zh6 hb)
    have n3_ := Aside0.mk (below_step zh2 hb)
    clear BK256
    clear BK257
    clear HB
    have HO265 := n0_
    have BK256 := n1_
    have BK257 := n2_
    have HB := n3_
    clear n0_ n1_ n2_ n3_
    clear hb ho24
    refine hK.out _ _ ⟨(blk_cell BK256.out 0).trans rfl, (blk_cell BK256.out 1).trans rfl, (blk_cell BK256.out 2).trans rfl, (blk_cell BK257.out 0).trans rfl, (blk_cell BK257.out 1).trans rfl⟩ (fun hHeld => ?_)
    clear hK K
    refine norm_ (a' := ?_) ?_ ?_
    rotate_left
    ·show Act.put _ (some 30) _ = _
     simp only [Act.put, List.setIfInBounds_toArray, List.set_cons_zero, List.set_cons_succ, i64_w, i32_w]
     rfl
    refine one_ (i := 3) (N := some 24) #[true, true, true, true, true, true, true, true, true, true, false, false, false] rfl rfl (one_of HT_.out (by kernel_rfl)) (by decide) (fun K hK => ?_)
    refine goes_ Try.func57 (by kernel_rfl) rfl #[.agg #[.int .i64 a0_0, .int .i64 a0_1, .slice A0_2 l0_2.length c0_2]] (by rfl) rfl rfl zh16 ?_
    with_reducible refine (impl_Board_present.calls kj2 a0_0 a0_1 _ _ l0_2 t260 _ ?side1 ?side2 A18.out).mono ?_
    (case side1 => exact zh9)
    (case side2 => exact HC0_2.out)
    rintro e w25 ⟨v261, rfl, ho0, hb⟩
    refine ⟨_, rfl, ?_⟩
    have n0_ := Aside0.mk (Kd.S_elder' (by first | exact HO265.out | ((with_reducible repeat (first | apply Kd.S_alloc | apply Kd.S_drewN | apply Kd.S_drew)); exact HO265.out)) (Kd.R_base ho0) hb)
    have n1_ := Aside0.mk (Kd.R_lower ho0 (below_size zh2))
    have n2_ := Aside0.mk (blk_below (g := gb256) (o := .cells #[.int .i64 a0_0, .int .i64 a0_1, .slice A0_2 l0_2.length c0_2] 31 (0, 0)) zh3 hb)
    have n3_ := Aside0.mk (blk_below (g := gb257) (o := .cells #[.int .i64 a1_0, .int .i64 a1_1] 33 (0, 0)) zh6 hb)
    have n4_ := Aside0.mk (below_step zh2 hb)
    clear HO265
    clear BK256
    clear BK257
    clear HB
    have HO265 := n0_
    have HO262 := n1_
    have BK256 := n2_
    have BK257 := n3_
    have HB := n4_
    clear n0_ n1_ n2_ n3_ n4_
    (try clear hb)
    (try clear hb2)
    (try clear hk)
    (try clear hi)
    (try clear ho0)
    (try clear hna_)
    (try clear hnb_)
    obtain ⟨Ao26, co26, eo26⟩ := Kd.S_slice HO265.out
    (first | subst eo26 | (injection eo26 with f1_ f2_ f3_; have f4_ := f1_.symm; have f5_ := f3_.symm; clear f1_ f2_ f3_; subst f4_; subst f5_))
    obtain ⟨Ao27, co27, eo27⟩ := Kd.R_slice HO262.out
    (first | subst eo27 | (injection eo27 with f1_ f2_ f3_; have f4_ := f1_.symm; have f5_ := f3_.symm; clear f1_ f2_ f3_; subst f4_; subst f5_))
    refine hK.out _ _ ⟨(blk_cell BK256.out 0).trans rfl, (blk_cell BK256.out 1).trans rfl, (blk_cell BK256.out 2).trans rfl, (blk_cell BK257.out 0).trans rfl, (blk_cell BK257.out 1).trans rfl⟩ (fun hHeld => ?_)
    clear hK K
    refine norm_ (a' := ?_) ?_ ?_
    rotate_left
    ·show Act.put _ (some 24) _ = _
     simp only [Act.put, List.setIfInBounds_toArray, List.set_cons_zero, List.set_cons_succ, i64_w, i32_w]
     rfl
    exact norm_ (by simp only [putAll, Act.put, List.setIfInBounds_toArray, List.set_cons_zero, List.set_cons_succ]) (hCont (.slice Ao27 t260.length co27, .slice Ao26 y263.length co26) _ ⟨hHeld, zh19, zh29, zh3, zh6, zh2⟩)
   rintro ⟨v261, v264⟩ w28 ⟨hS_, h0_, h1_, h2_, h3_, h4_⟩
   have n0_ : Aside0 (Kd.R (Kd.int .i64) 3 w28 w.heap.size (fun _ => True) v261 t260) := ⟨h0_⟩
   have n1_ : Aside0 (Kd.S (Kd.slice 3 (Kd.int .i64)) 22 w28 w.heap.size (fun k_ => some k_ ≠ (v261 : Value).ownBlock) v264 y263) := ⟨h1_⟩
   have n2_ : Aside0 (w28.heap[gb256]? = some (.cells #[.int .i64 a0_0, .int .i64 a0_1, .slice A0_2 l0_2.length c0_2] 31 (0, 0))) := ⟨h2_⟩
   have n3_ : Aside0 (w28.heap[gb257]? = some (.cells #[.int .i64 a1_0, .int .i64 a1_1] 33 (0, 0))) := ⟨h3_⟩
   have n4_ : Aside0 (Below w.heap.size w w28) := ⟨h4_⟩
   clear BK256
   clear BK257
   clear HB
   clear h0_ h1_ h2_ h3_ h4_
   have HO262 := n0_
   have HO265 := n1_
   have BK256 := n2_
   have BK257 := n3_
   have HB := n4_
   clear n0_ n1_ n2_ n3_ n4_
   have hHeld : w28.cell? ⟨gb256, 0, none⟩ = some (.int .i64 a0_0) ∧ w28.cell? ⟨gb256, 1, none⟩ = some (.int .i64 a0_1) ∧ w28.cell? ⟨gb256, 2, none⟩ = some (.slice A0_2 l0_2.length c0_2) ∧ w28.cell? ⟨gb257, 0, none⟩ = some (.int .i64 a1_0) ∧ w28.cell? ⟨gb257, 1, none⟩ = some (.int .i64 a1_1) := hS_
   obtain ⟨Ao29, co29, eo29⟩ := Kd.S_slice HO265.out
   (first | subst eo29 | (injection eo29 with f1_ f2_ f3_; have f4_ := f1_.symm; have f5_ := f3_.symm; clear f1_ f2_ f3_; subst f4_; subst f5_))
   obtain ⟨Ao30, co30, eo30⟩ := Kd.R_slice HO262.out
   (first | subst eo30 | (injection eo30 with f1_ f2_ f3_; have f4_ := f1_.symm; have f5_ := f3_.symm; clear f1_ f2_ f3_; subst f4_; subst f5_))
   refine norm_ (a' := ?_) ?_ ?_
   rotate_left
   ·simp only [putAll, Act.put, List.setIfInBounds_toArray, List.set_cons_zero, List.set_cons_succ]
    rfl
   refine pure_ (i := 10) (N := some 31) (v := ?_) (a' := ?_) #[true, true, true, true, true, true, true, true, true, true, true, false, false] rfl rfl (any_of HT_.out (by kernel_rfl)) (fun _ _ _ h => h) (Or.inl ⟨by rfl, ?_⟩) ?_ ?_
   rotate_left
   ·intro w'
    go_simp
    with_reducible rfl
   rotate_left
   ·simp only [Act.put, List.setIfInBounds_toArray, List.set_cons_zero, List.set_cons_succ, i64_w, i32_w]
    rfl
   refine one_ (i := 11) (N := some 32) #[true, true, true, true, true, true, true, true, true, true, true, true, false] rfl rfl (one_of HT_.out (by kernel_rfl)) (by decide) (fun K hK => ?_)
   refine box_step ?hg (N := 32) ?hd (cs := #[.int .i64 a0_0, .int .i64 a0_1, .slice A0_2 l0_2.length c0_2, .int .i64 a1_0, .int .i64 a1_1, .slice Ao30 t260.length co30, .slice Ao29 y263.length co29]) (t := 59) ?hr ?_; (case hd => rfl); (case hg => rfl); (case hr => first | (go_simp; done) | (go_simp; rfl))
   intro gb266 hg w31 hbox hb
   have n0_ := Aside0.mk (Kd.R_below zh19 hb)
   have n1_ := Aside0.mk (Kd.S_below (by first | exact HO265.out | ((with_reducible repeat (first | apply Kd.S_alloc | apply Kd.S_drewN | apply Kd.S_drew)); exact HO265.out)) hb)
   have n2_ := Aside0.mk (blk_below (g := gb256) (o := .cells #[.int .i64 a0_0, .int .i64 a0_1, .slice A0_2 l0_2.length c0_2] 31 (0, 0)) zh3 hb)
   have n3_ := Aside0.mk (blk_below (g := gb257) (o := .cells #[.int .i64 a1_0, .int .i64 a1_1] 33 (0, 0)) zh6 hb)
   have n4_ := Aside0.mk (below_step zh2 hb)
   have n5_ := Aside0.mk (hbox)
   have n6_ := Aside0.mk ((by rw [hg]; exact (below_size zh2) : w.heap.size ≤ gb266))
   have n7_ := Aside0.mk ((by rw [hg]; exact (below_size zh2) : w.heap.size ≤ gb266))
   have n8_ := Aside0.mk ((zh31 : gb256 ≠ gb266))
   have n9_ := Aside0.mk ((zh32 : gb266 ≠ gb256))
   have n10_ := Aside0.mk ((by rw [hg]; exact Nat.ne_of_lt (blk_lt (g := gb257) (o := .cells #[.int .i64 a1_0, .int .i64 a1_1] 33 (0, 0)) zh6) : gb257 ≠ gb266))
   have n11_ := Aside0.mk ((by rw [hg]; exact Nat.ne_of_gt (blk_lt (g := gb257) (o := .cells #[.int .i64 a1_0, .int .i64 a1_1] 33 (0, 0)) zh6) : gb266 ≠ gb257))
   clear HO262
   clear HO265
   clear BK256
   clear BK257
   clear HB
   have HO262 := n0_
   have HO265 := n1_
   have BK256 := n2_
   have BK257 := n3_
   have HB := n4_
   have BK266 := n5_
   have GW266 := n6_
   have GE266 := n7_
   have NB256_266 := n8_
   have NB266_256 := n9_
   have NB257_266 := n10_
   have NB266_257 := n11_
   clear n0_ n1_ n2_ n3_ n4_ n5_ n6_ n7_ n8_ n9_ n10_ n11_
   clear hb hbox hg
   refine hK.out _ _ ⟨(blk_cell BK256.out 0).trans rfl, (blk_cell BK256.out 1).trans rfl, (blk_cell BK256.out 2).trans rfl, (blk_cell BK257.out 0).trans rfl, (blk_cell BK257.out 1).trans rfl⟩ (fun hHeld => ?_)
   clear hK K
   refine norm_ (a' := ?_) ?_ ?_
   rotate_left
   ·show Act.put _ (some 32) _ = _
    simp only [Act.put, List.setIfInBounds_toArray, List.set_cons_zero, List.set_cons_succ, i64_w, i32_w]
    rfl
   refine pure_ (i := 12) (N := some 6) (v := ?_) (a' := ?_) #[true, true, true, true, true, true, true, true, true, true, true, true, true] rfl rfl (any_of HT_.out (by kernel_rfl)) (fun _ _ _ h => h) (Or.inl ⟨by rfl, ?_⟩) ?_ ?_
   rotate_left
   ·intro w'
    go_simp
    with_reducible rfl
   rotate_left
   ·simp only [Act.put, List.setIfInBounds_toArray, List.set_cons_zero, List.set_cons_succ, i64_w, i32_w]
    rfl
   refine done_ (done_of HT_.out (by kernel_rfl)) ?_
   have hnb32 := NB266_256.out
   have hnc32 := NB256_266.out
   have hnb33 := NB266_257.out
   have hnc33 := NB257_266.out
   have hcz34_0 : w31.cell? ⟨gb266, 0, none⟩ = some (.int .i64 a0_0) := (blk_cell BK266.out 0).trans rfl
   have hcz34_1 : w31.cell? ⟨gb266, 1, none⟩ = some (.int .i64 a0_1) := (blk_cell BK266.out 1).trans rfl
   have hcz34_2 : w31.cell? ⟨gb266, 2, none⟩ = some (.slice A0_2 l0_2.length c0_2) := (blk_cell BK266.out 2).trans rfl
   have hcz34_3 : w31.cell? ⟨gb266, 3, none⟩ = some (.int .i64 a1_0) := (blk_cell BK266.out 3).trans rfl
   have hcz34_4 : w31.cell? ⟨gb266, 4, none⟩ = some (.int .i64 a1_1) := (blk_cell BK266.out 4).trans rfl
   have hcz34_5 : w31.cell? ⟨gb266, 5, none⟩ = some (.slice Ao30 t260.length co30) := (blk_cell BK266.out 5).trans rfl
   have hcz34_6 : w31.cell? ⟨gb266, 6, none⟩ = some (.slice Ao29 y263.length co29) := (blk_cell BK266.out 6).trans rfl
   have hfz34_0 := blk_frozen BK266.out 0
   have hfz34_1 := blk_frozen BK266.out 1
   have hfz34_2 := blk_frozen BK266.out 2
   have hfz34_3 := blk_frozen BK266.out 3
   have hfz34_4 := blk_frozen BK266.out 4
   have hfz34_5 := blk_frozen BK266.out 5
   have hfz34_6 := blk_frozen BK266.out 6
   try go_wp2
   go_loopg [38] kj2 (fun kq v38 w' => ∃ (x38_2 : Int) (x267006_2 : List (List Int)) (u267006 : Value), v38 = .int .i64 x38_2 ∧ Aside0 (impl_graphOf.l0 kq t260 (t260.length : Int) x38_2 a0_0 a0_1 l0_2 a1_0 a1_1 a0_0 a0_1 l0_2 a1_0 a1_1 t260 x267006_2 = some (r1, r2, r3)) ∧ Aside0 (kq ≤ kj2) ∧ Aside0 (Kd.R (Kd.int .i64) 3 w' w.heap.size (fun _ => True) (.slice Ao30 t260.length co30) t260) ∧ Aside0 (Kd.R (Kd.int .i64) 3 w' w.heap.size (fun _ => True) (.slice Ao30 t260.length co30) t260) ∧ Aside0 (Kd.S (Kd.slice 3 (Kd.int .i64)) 22 w' w.heap.size (fun k_ => some k_ ≠ ((.slice Ao30 t260.length co30) : Value).ownBlock ∧ some k_ ≠ ((.slice Ao30 t260.length co30) : Value).ownBlock) u267006 x267006_2) ∧ Aside0 (w'.heap[gb256]? = some (.cells #[.int .i64 a0_0, .int .i64 a0_1, (.slice A0_2 l0_2.length c0_2)] 31 (0, 0))) ∧ Aside0 (w'.heap[gb257]? = some (.cells #[.int .i64 a1_0, .int .i64 a1_1] 33 (0, 0))) ∧ Aside0 (w'.heap[gb266]? = some (.cells #[.int .i64 a0_0, .int .i64 a0_1, (.slice A0_2 l0_2.length c0_2), .int .i64 a1_0, .int .i64 a1_1, (.slice Ao30 t260.length co30), u267006] 59 (0, 0))) ∧ Aside0 (Below w.heap.size w w'))
   case atStart => exact ⟨(0), (y263), (.slice Ao29 y263.length co29), zh22, H', ⟨Nat.le_refl _⟩, ⟨zh19⟩, ⟨zh19⟩, ⟨by (with_reducible repeat (first | apply Kd.S_alloc | apply Kd.S_drewN | apply Kd.S_drew)); exact Kd.S_mono HO265.out (fun _ hk => ⟨hk, hk⟩)⟩, ⟨zh3⟩, ⟨zh6⟩, ⟨zh11⟩, ⟨zh1⟩⟩
   case round =>
    clear H'
    try clear c1; try clear c2; try clear p2; try clear c3; try clear c5; try clear p6; try clear c7; try clear c9; try clear c14; try clear c17; try clear c20; try clear c20b0; try clear c20b1; try clear c21; try clear c21b0; try clear c21b1; try clear c31; try clear c32; try clear c33; try clear hcz10_0; try clear hcz10_1; try clear hcz10_2; try clear hcz12_0; try clear hcz12_1; try clear hcz15_0; try clear hcz15_1; try clear hcz15_2; try clear hcz34_0; try clear hcz34_1; try clear hcz34_2; try clear hcz34_3; try clear hcz34_4; try clear hcz34_5; try clear hcz34_6; try clear hfz10_0; try clear hfz10_1
    try clear hfz10_2; try clear hfz12_0; try clear hfz12_1; try clear hfz15_0; try clear hfz15_1; try clear hfz15_2; try clear hfz34_0; try clear hfz34_1; try clear hfz34_2; try clear hfz34_3; try clear hfz34_4; try clear hfz34_5; try clear hfz34_6; try clear p2
    obtain ⟨x38_2, x267006_2, u267006, rfl, HA, HK2, HO_36, HO_267005, HO_267006, BK256, BK257, BK266, HB⟩ := hrel
    cases gk with
    | zero => exact absurd HA.out (by simp [impl_graphOf.l0])
    | succ k2 =>
     have H := HA.out
     clear HA
     simp only [impl_graphOf.l0] at H
     by_cases c35 : x38_2 < (t260.length : Int)
     rotate_left
     ·rw [if_neg c35] at H
      have c35b0 : decide (x38_2 < (t260.length : Int)) = false := decide_eq_false c35
      clear c35
      simp only [Option.some.injEq, Prod.mk.injEq] at H
      obtain ⟨rfl, rfl, rfl⟩ := H
      go_wp2
      go_ret2
      exact ⟨_, _, _, by first | rfl | (simp [errW_none, errW_some] <;> rfl) | (simp only [← hji19]; first | rfl | (simp [errW_none, errW_some] <;> rfl)) | (simp [*, errW_none, errW_some] <;> rfl), ⟨fun _ => ⟨_, rfl, zh11, GW266.out⟩, (fun h_ => by cases h_)⟩, zh8, by (with_reducible repeat (first | apply Kd.S_alloc | apply Kd.S_drewN | apply Kd.S_drew)); exact Kd.S_mono HO_267006.out (fun _ hk => hk.2), zh1⟩
     rw [if_pos c35] at H
     have c35b0 : decide (x38_2 < (t260.length : Int)) = true := decide_eq_true c35
     clear c35
     by_cases c36 : 0 ≤ x38_2
     rotate_left
     ·rw [if_neg c36] at H
      exact absurd H (by simp)
     rw [if_pos c36] at H
     have c36b0 : decide (0 ≤ x38_2) = true := decide_eq_true c36
     clear c36
     by_cases c37 : x38_2 < (t260.length : Int)
     rotate_left
     ·rw [if_neg c37] at H
      exact absurd H (by simp)
     rw [if_pos c37] at H
     have c37b0 : decide (x38_2 < (t260.length : Int)) = true := decide_eq_true c37
     clear c37
     replace H := Option.bind_eq_some_iff.mp H
     obtain ⟨t268, A380, H⟩ := H
     replace H : (impl_graphOf.l1 k2 (rd t260 x38_2) t260 (t260.length : Int) x38_2 t268 (t268.length : Int) 0 a0_0 a0_1 l0_2 a1_0 a1_1 a0_0 a0_1 l0_2 a1_0 a1_1 t260 x267006_2) = some (r1, r2, r3) := H
     have A38 := Aside0.mk A380
     clear A380
     have H' := Aside0.mk H
     clear H
     have p267 : 0 ≤ (x38_2 : Int) := of_decide_eq_true zh5
     have q267 : x38_2 < (t260.length : Int) := of_decide_eq_true zh5
     obtain ⟨ad267, e267, hx267_0⟩ := Kd.at_int (Kd.R_reads' HO_36.out).2.2 x38_2 p267 q267
     cases e267
     replace p267 := eq_true p267
     replace q267 := eq_true q267
     have hnb39 := NB257_256.out
     have hnc39 := NB256_257.out
     have hnb40 := NB257_266.out
     have hnc40 := NB266_257.out
     have hcz41_0 : wr.cell? ⟨gb257, 0, none⟩ = some (.int .i64 a1_0) := (blk_cell BK257.out 0).trans rfl
     have hcz41_1 : wr.cell? ⟨gb257, 1, none⟩ = some (.int .i64 a1_1) := (blk_cell BK257.out 1).trans rfl
     have hfz41_0 := blk_frozen BK257.out 0
     have hfz41_1 := blk_frozen BK257.out 1
     go_wp2_with (first | ((with_reducible refine gate_callee (f := 58) rfl ?_); refine goesL_ (some 43) rfl rfl Try.func58 (by kernel_rfl) rfl #[.agg #[.int .i64 a1_0, .int .i64 a1_1]] rfl zh16 ?_; (with_reducible refine (impl_Leaper_steps.calls k2 a1_0 a1_1 t268 _ A38.out).mono ?_); rintro e w42 ⟨v269, rfl, ho0, hb⟩; refine ⟨_, rfl, ?_⟩; obtain ⟨na284_, nb284_, hna_, hnb_⟩ := rng_of hb; replace ho0 := rng_new ho0 hna_ hnb_; have n0_ := Aside0.mk (Kd.R_below zh12 hb); have n1_ := Aside0.mk (Kd.R_below zh8 hb); have n2_ := Aside0.mk (Kd.S_elder' (Kd.S_mono (Kd.S_bound zh26) (fun k_ hk_ => (⟨hk_.1, rng_lt hna_ hk_.2.2.1⟩ : _ ∧ k_ ≠ (rngIn na284_ nb284_ k_)))) (Kd.S_base ho0) hb); have n3_ := Aside0.mk (Kd.S_lower (Kd.S_new' (Kd.S_new' (Kd.S_new' ho0 (Kd.R_lt zh12)) (Kd.R_lt zh8)) (Kd.S_lt zh26)) (below_size zh1)); have n4_ := Aside0.mk (blk_below (g := gb256) (o := .cells #[.int .i64 a0_0, .int .i64 a0_1, .slice A0_2 l0_2.length c0_2] 31 (0, 0)) zh3 hb); have n5_ := Aside0.mk (blk_below (g := gb257) (o := .cells #[.int .i64 a1_0, .int .i64 a1_1] 33 (0, 0)) zh6 hb); have n6_ := Aside0.mk (blk_below (g := gb266) (o := .cells #[.int .i64 a0_0, .int .i64 a0_1, .slice A0_2 l0_2.length c0_2, .int .i64 a1_0, .int .i64 a1_1, .slice (some ad267) t260.length co30, u267006] 59 (0, 0)) zh11 hb); have n7_ := Aside0.mk ((Nat.le_of_eq hnb_.symm : nb284_ ≤ w42.heap.size)); have n8_ := Aside0.mk (below_step zh1 hb); clear HO_36; clear HO_267005; clear HO_267006; clear BK256; clear BK257; clear BK266; clear HB; have HO_36 := n0_; have HO_267005 := n1_; have HO_267006 := n2_; have HO270 := n3_; have BK256 := n4_; have BK257 := n5_; have BK266 := n6_; have HNB284 := n7_; have HB := n8_; clear n0_ n1_ n2_ n3_ n4_ n5_ n6_ n7_ n8_; (try clear hb); (try clear hb2); (try clear hk); (try clear hi); (try clear ho0); (try clear hna_); (try clear hnb_); obtain ⟨Ao43, co43, eo43⟩ := Kd.S_slice HO270.out; subst eo43))
     go_loopg [45] k2 (fun kq v45 w' => ∃ (x43_3 : List (List Int)) (x45_3 : Int) (x267006_3 : List (List Int)) (u267006 : Value), v45 = .int .i64 x45_3 ∧ Aside0 (impl_graphOf.l1 kq (rd t260 x38_2) t260 (t260.length : Int) x38_2 x43_3 (t268.length : Int) x45_3 a0_0 a0_1 l0_2 a1_0 a1_1 a0_0 a0_1 l0_2 a1_0 a1_1 t260 x267006_3 = some (r1, r2, r3)) ∧ Aside0 (kq ≤ k2) ∧ Aside0 (Kd.R (Kd.int .i64) 3 w' w.heap.size (fun _ => True) (.slice (some ad267) t260.length co30) t260) ∧ Aside0 (Kd.S (Kd.slice 3 (Kd.int .i64)) 22 w' w.heap.size (fun k_ => some k_ ≠ ((.slice (some ad267) t260.length co30) : Value).ownBlock ∧ some k_ ≠ ((.slice (some ad267) t260.length co30) : Value).ownBlock ∧ some k_ ≠ (u267006 : Value).ownBlock ∧ k_ ≠ (rngOut na284_ nb284_ k_)) (.slice Ao43 t268.length co43) x43_3) ∧ Aside0 (Kd.R (Kd.int .i64) 3 w' w.heap.size (fun _ => True) (.slice (some ad267) t260.length co30) t260) ∧ Aside0 (Kd.S (Kd.slice 3 (Kd.int .i64)) 22 w' w.heap.size (fun k_ => some k_ ≠ ((.slice (some ad267) t260.length co30) : Value).ownBlock ∧ some k_ ≠ ((.slice Ao43 t268.length co43) : Value).ownBlock ∧ some k_ ≠ ((.slice (some ad267) t260.length co30) : Value).ownBlock ∧ k_ ≠ (rngIn na284_ nb284_ k_)) u267006 x267006_3) ∧ Aside0 (w'.heap[gb256]? = some (.cells #[.int .i64 a0_0, .int .i64 a0_1, (.slice A0_2 l0_2.length c0_2)] 31 (0, 0))) ∧ Aside0 (w'.heap[gb257]? = some (.cells #[.int .i64 a1_0, .int .i64 a1_1] 33 (0, 0))) ∧ Aside0 (w'.heap[gb266]? = some (.cells #[.int .i64 a0_0, .int .i64 a0_1, (.slice A0_2 l0_2.length c0_2), .int .i64 a1_0, .int .i64 a1_1, (.slice (some ad267) t260.length co30), u267006] 59 (0, 0))) ∧ Aside0 (nb284_ ≤ w'.heap.size) ∧ Aside0 (Below w.heap.size w w'))
     case atStart => exact ⟨(t268), (0), (x267006_2), (u267006), zh22, H', ⟨Nat.le_refl _⟩, ⟨zh12⟩, ⟨by (with_reducible repeat (first | apply Kd.S_alloc | apply Kd.S_drewN | apply Kd.S_drew)); exact Kd.S_mono HO270.out (fun _ hk => ⟨hk.1.1.2, ⟨hk.1.2, ⟨hk.2, hk.1.1.1.2⟩⟩⟩)⟩, ⟨zh8⟩, ⟨by (with_reducible repeat (first | apply Kd.S_alloc | apply Kd.S_drewN | apply Kd.S_drew)); exact Kd.S_mono HO_267006.out (fun _ hk => ⟨hk.1.1.1, ⟨hk.2, ⟨hk.1.1.2, hk.1.2⟩⟩⟩)⟩, ⟨zh3⟩, ⟨zh6⟩, ⟨zh11⟩, ⟨zh10⟩, ⟨zh1⟩⟩
     case round =>
      clear H'
      try clear c1; try clear c2; try clear p2; try clear q2; try clear hx2; try clear c3; try clear c4; try clear c5; try clear p6; try clear c7; try clear c9; try clear c14; try clear c17; try clear c20; try clear c20b0; try clear c20b1; try clear c21; try clear c21b0; try clear c21b1; try clear p26; try clear q26; try clear hx26; try clear c31; try clear c32; try clear c33; try clear c35; try clear c35b0; try clear c36; try clear c36b0; try clear c37; try clear c37b0; try clear c39; try clear c40; try clear hcz10_0; try clear hcz10_1; try clear hcz10_2; try clear hcz12_0; try clear hcz12_1; try clear hcz15_0
      try clear hcz15_1; try clear hcz15_2; try clear hcz34_0; try clear hcz34_1; try clear hcz34_2; try clear hcz34_3; try clear hcz34_4; try clear hcz34_5; try clear hcz34_6; try clear hcz41_0; try clear hcz41_1; try clear hfz10_0; try clear hfz10_1; try clear hfz10_2; try clear hfz12_0; try clear hfz12_1; try clear hfz15_0; try clear hfz15_1; try clear hfz15_2; try clear hfz34_0; try clear hfz34_1; try clear hfz34_2; try clear hfz34_3; try clear hfz34_4; try clear hfz34_5; try clear hfz34_6; try clear hfz41_0; try clear hfz41_1; try clear hx267_0; try clear p2; try clear p267; try clear p6; try clear q267
      obtain ⟨x43_3, x45_3, x267006_3, u267006, rfl, HA, HK3, HO_36, HO_43, HO_267005, HO_267006, BK256, BK257, BK266, HNB284, HB⟩ := hrel
      have hl43_3 := (Kd.S_reads' HO_43.out).1
      rw [hl43_3] at HO_43
      (try simp only [hl43_3])
      (try simp only [hl43_3] at BK256)
      (try simp only [hl43_3] at BK257)
      (try simp only [hl43_3] at BK266)
      (try simp only [hl43_3] at HO_36)
      (try simp only [hl43_3] at HO_267005)
      (try simp only [hl43_3] at HO_267006)
      cases gk with
      | zero => exact absurd HA.out (by simp [impl_graphOf.l1])
      | succ k3 =>
       have H := HA.out
       clear HA
       simp only [impl_graphOf.l1] at H
       by_cases c44 : x45_3 < (t268.length : Int)
       rotate_left
       ·rw [if_neg c44] at H
        have c44b0 : decide (x45_3 < (t268.length : Int)) = false := decide_eq_false c44
        have c44b8 := c44b0
        (try simp only [hl43_3] at c44b8)
        clear c44
        by_cases c90 : 0 ≤ (rd t260 x38_2)
        rotate_left
        ·rw [if_neg c90] at H
         exact absurd H (by simp)
        rw [if_pos c90] at H
        have c90b0 : decide (0 ≤ (rd t260 x38_2)) = true := decide_eq_true c90
        clear c90
        by_cases c91 : (rd t260 x38_2) < (x267006_3.length : Int)
        rotate_left
        ·rw [if_neg c91] at H
         exact absurd H (by simp)
        rw [if_pos c91] at H
        have c91b0 : decide ((rd t260 x38_2) < (x267006_3.length : Int)) = true := decide_eq_true c91
        have c91b8 := c91b0
        (try simp only [hl43_3] at c91b8)
        clear c91
        by_cases c92 : (rd_L1 x267006_3 (rd t260 x38_2)).length < 4611686018427387904
        rotate_left
        ·rw [if_neg c92] at H
         exact absurd H (by simp)
        rw [if_pos c92] at H
        have LMc92 := Aside0.mk c92
        clear c92
        obtain ⟨y281, hy281⟩ : ∃ y_ : List (List Int), y_ = (x267006_3.set ((rd t260 x38_2) : Int).toNat (sortL (rd_L1 x267006_3 (rd t260 x38_2)))) := ⟨_, rfl⟩
        replace H : (impl_graphOf.l0 k3 t260 (t260.length : Int) (wrap64 (x38_2 + 1)) a0_0 a0_1 l0_2 a1_0 a1_1 a0_0 a0_1 l0_2 a1_0 a1_1 t260 y281) = some (r1, r2, r3) := by first | (rw [hy281]; with_reducible exact H) | (have H2_ := (Option.bind_some _ _).symm.trans H; rw [hy281]; with_reducible exact H2_) | (have H2_ := (Option.bind_some _ _).symm.trans H; with_reducible exact H2_) | with_reducible exact H | (rw [hy281]; exact H) | exact H
        have Ny281 := Aside0.mk hy281
        clear hy281
        have H' := Aside0.mk H
        clear H
        have hnb93 := NB266_256.out
        have hnc93 := NB256_266.out
        have hnb94 := NB266_257.out
        have hnc94 := NB257_266.out
        have hcz95_0 : wr.cell? ⟨gb266, 0, none⟩ = some (.int .i64 a0_0) := (blk_cell BK266.out 0).trans rfl
        have hcz95_1 : wr.cell? ⟨gb266, 1, none⟩ = some (.int .i64 a0_1) := (blk_cell BK266.out 1).trans rfl
        have hcz95_2 : wr.cell? ⟨gb266, 2, none⟩ = some (.slice A0_2 l0_2.length c0_2) := (blk_cell BK266.out 2).trans rfl
        have hcz95_3 : wr.cell? ⟨gb266, 3, none⟩ = some (.int .i64 a1_0) := (blk_cell BK266.out 3).trans rfl
        have hcz95_4 : wr.cell? ⟨gb266, 4, none⟩ = some (.int .i64 a1_1) := (blk_cell BK266.out 4).trans rfl
        have hcz95_5 : wr.cell? ⟨gb266, 5, none⟩ = some (.slice (some ad267) t260.length co30) := (blk_cell BK266.out 5).trans rfl
        have hcz95_6 : wr.cell? ⟨gb266, 6, none⟩ = some (u267006) := (blk_cell BK266.out 6).trans rfl
        have hfz95_0 := blk_frozen BK266.out 0
        have hfz95_1 := blk_frozen BK266.out 1
        have hfz95_2 := blk_frozen BK266.out 2
        have hfz95_3 := blk_frozen BK266.out 3
        have hfz95_4 := blk_frozen BK266.out 4
        have hfz95_5 := blk_frozen BK266.out 5
        have hfz95_6 := blk_frozen BK266.out 6
        obtain ⟨Ao96, co96, eo96⟩ := Kd.S_slice HO_267006.out
        subst eo96
        have p280 : 0 ≤ ((rd t260 x38_2) : Int) := of_decide_eq_true zh5
        have q280 : (rd t260 x38_2) < (x267006_3.length : Int) := of_decide_eq_true zh5
        obtain ⟨ad280, A280_0, c280_0, e280, hx280_0, hl280_0, hi280_0⟩ := at_L1 (Kd.S_reads' HO_267006.out).2.2 (rd t260 x38_2) p280 q280
        cases e280
        obtain ⟨ce280, hce280, hMe280, hcc280⟩ := Kd.S_get HO_267006.out [] (rd t260 x38_2) p280 (by first | exact q280 | exact of_decide_eq_true zh5 | (have e_ := (Kd.S_reads' HO_267006.out).1; omega))
        obtain ⟨ve280_0, rfl, ge280_0⟩ := hMe280
        have hv280_0 := hcc280 0 _ rfl
        rw [Nat.add_zero, show ((Kd.slice 3 (Kd.int .i64))).sz = 1 from rfl, Nat.mul_one] at hv280_0
        replace hv280_0 := Option.some.inj (hv280_0.symm.trans hx280_0)
        rw [hv280_0] at ge280_0
        have HL280_0 := Aside0.mk (show Kd.R (Kd.int .i64) 3 _ _ _ _ (rd_L1 x267006_3 (rd t260 x38_2)) from ge280_0)
        clear hv280_0 ge280_0
        have HX280_0 := Aside0.mk hx280_0
        clear hcc280 hce280
        have HR280_0 := Aside0.mk hi280_0
        have HC280_0 := Aside0.mk hl280_0
        clear hi280_0 hl280_0
        replace p280 := eq_true p280
        replace q280 := eq_true q280
        have hq97 : ((rd t260 x38_2) : Int) < (x267006_3.length : Int) := (by have h_ : ((rd t260 x38_2) : Int) < ((x267006_3.length : Int) : Int) := of_decide_eq_true zh5; first | exact h_ | (have e_ := (Kd.S_reads' HO_267006.out).1; omega) | simpa only [List.length_set, List.length_set] using h_)
        obtain ⟨oki97, ce97, hcl97, hM97, hcc97, hok97, hbk97⟩ := Kd.S_borrow HO_267006.out [] ((rd t260 x38_2) : Int) (of_decide_eq_true zh5) hq97
        obtain ⟨ve97_0, rfl, ge97_0⟩ := hM97
        have hv97 := hcc97 0 _ rfl
        rw [Nat.add_zero, show ((Kd.slice 3 (Kd.int .i64))).sz = 1 from rfl, Nat.mul_one] at hv97
        replace hv97 := Option.some.inj (hv97.symm.trans HX280_0.out)
        subst hv97
        clear hcc97 hcl97
        have HP97 := Aside0.mk (show Kd.R (Kd.int .i64) 3 _ w.heap.size oki97 _ (rd_L1 x267006_3 (rd t260 x38_2)) from ge97_0)
        have HBK97 := Aside0.mk @hbk97
        clear hbk97 ge97_0
        go_wp2_with (first | ((with_reducible refine gate_callee (f := 42) rfl ?_); refine goesL_ (some 122) rfl rfl Try.func42 (by kernel_rfl) rfl #[.slice A280_0 (rd_L1 x267006_3 (rd t260 x38_2)).length c280_0] rfl zh16 ?_; (with_reducible refine (slices_Sort_int_int.inrow _ _ _ _ (rd_L1 x267006_3 (rd t260 x38_2)) (by first | exact HP97.out | (repeat (first | (with_reducible apply Kd.R_alloc) | (with_reducible apply Kd.R_drewN) | (with_reducible apply Kd.R_drew))); exact HP97.out) LMc92.out).mono ?_); rintro e w98 ⟨rfl, hz_, hg⟩; refine ⟨_, rfl, ?_⟩; have hp_ : Kd.S (Kd.slice 3 (Kd.int .i64)) 22 w98 w.heap.size (fun k_ => some k_ ≠ (.slice (some ad267) t260.length co30 : Value).ownBlock ∧ some k_ ≠ (.slice Ao43 x43_3.length co43 : Value).ownBlock ∧ some k_ ≠ (.slice (some ad267) t260.length co30 : Value).ownBlock ∧ k_ ≠ (rngIn na284_ nb284_ k_)) (.slice (some ad280) x267006_3.length co96) y281 := (by rw [Ny281.out]; exact HBK97.out hg (fun k_ e_ => HP97.out.1 k_ e_) (Kd.M_row hz_)); have n0_ := Aside0.mk (Kd.R_grown2 zh12 rfl hg (fun k_ e_ => (HL280_0.out.1 k_ e_).1.1)); have n1_ := Aside0.mk (Kd.S_grown zh23 hg (by exact fun k_ hk_ e_ => rng_apart (hk_.2.2.2) ((HL280_0.out.1 k_ e_.symm).1.2.2.2))); have n2_ := Aside0.mk (Kd.R_grown2 zh8 rfl hg (fun k_ e_ => (HL280_0.out.1 k_ e_).1.2.2.1)); have n3_ := Aside0.mk (hp_); have n4_ := Aside0.mk (blk_grown (g := gb256) (o := .cells #[.int .i64 a0_0, .int .i64 a0_1, .slice A0_2 l0_2.length c0_2] 31 (0, 0)) zh3 hg (Kd.R_ne HL280_0.out BK256.out (by decide))); have n5_ := Aside0.mk (blk_grown (g := gb257) (o := .cells #[.int .i64 a1_0, .int .i64 a1_1] 33 (0, 0)) zh6 hg (Kd.R_ne HL280_0.out BK257.out (by decide))); have n6_ := Aside0.mk (blk_grown (g := gb266) (o := .cells #[.int .i64 a0_0, .int .i64 a0_1, .slice A0_2 l0_2.length c0_2, .int .i64 a1_0, .int .i64 a1_1, .slice (some ad267) t260.length co30, .slice (some ad280) x267006_3.length co96] 59 (0, 0)) zh11 hg (Kd.R_ne HL280_0.out BK266.out (by decide))); have n7_ := Aside0.mk (pw_below_grown zh1 _ (below_size zh1) hg (Kd.R_base HP97.out)); have n8_ := Aside0.mk (show nb284_ ≤ w98.heap.size from zh7); clear HO_36; clear HO_43; clear HO_267005; clear HO_267006; clear BK256; clear BK257; clear BK266; clear HB; clear HNB284; clear HL280_0; have HO_36 := n0_; have HO_43 := n1_; have HO_267005 := n2_; have HO_267006 := n3_; have BK256 := n4_; have BK257 := n5_; have BK266 := n6_; have HB := n7_; have HNB284 := n8_; clear n0_ n1_ n2_ n3_ n4_ n5_ n6_ n7_ n8_; clear hg hz_ hp_ HP97 HBK97))
        (try simp only [← hl43_3])
        go_roundg k3
        case measure => have := HJ2.out; have := HK2.out; have := HK3.out; omega
        case rel => exact ⟨(wrap64 (x38_2 + 1)), (y281), (.slice (some ad280) x267006_3.length co96), zh22, H', ⟨zh25⟩, ⟨zh18⟩, ⟨zh17⟩, ⟨by (try simp only [hl43_3]); (with_reducible repeat (first | apply Kd.S_alloc | apply Kd.S_drewN | apply Kd.S_drew)); exact Kd.S_mono HO_267006.out (fun _ hk => ⟨hk.1, hk.2.2.1⟩)⟩, ⟨zh15⟩, ⟨zh14⟩, ⟨zh13⟩, ⟨zh1⟩⟩
       rw [if_pos c44] at H
       have c44b0 : decide (x45_3 < (t268.length : Int)) = true := decide_eq_true c44
       have c44b8 := c44b0
       (try simp only [hl43_3] at c44b8)
       clear c44
       by_cases c45 : 0 ≤ x45_3
       rotate_left
       ·rw [if_neg c45] at H
        exact absurd H (by simp)
       rw [if_pos c45] at H
       have c45b0 : decide (0 ≤ x45_3) = true := decide_eq_true c45
       clear c45
       by_cases c46 : x45_3 < (x43_3.length : Int)
       rotate_left
       ·rw [if_neg c46] at H
        exact absurd H (by simp)
       rw [if_pos c46] at H
       have c46b0 : decide (x45_3 < (x43_3.length : Int)) = true := decide_eq_true c46
       have c46b8 := c46b0
       (try simp only [hl43_3] at c46b8)
       clear c46
       by_cases c47 : a0_0 = 0
       ·rw [if_pos c47] at H
        exact absurd H (by simp)
       rw [if_neg c47] at H
       have c47b0 : (a0_0 == 0) = false := beq_eq_false_iff_ne.mpr c47
       have c47b1 : (a0_0 != 0) = true := bne_iff_ne.mpr c47
       by_cases c48 : 0 < ((rd_L1 x43_3 x45_3).length : Int)
       rotate_left
       ·rw [if_neg c48] at H
        exact absurd H (by simp)
       rw [if_pos c48] at H
       have c48b0 : decide (0 < ((rd_L1 x43_3 x45_3).length : Int)) = true := decide_eq_true c48
       have c48b8 := c48b0
       (try simp only [hl43_3] at c48b8)
       have c48b1 : decide (0 < (rd_L1 x43_3 x45_3).length) = true := decide_eq_true (by omega)
       have c48b9 := c48b1
       (try simp only [hl43_3] at c48b9)
       clear c48
       by_cases c49 : 1 < ((rd_L1 x43_3 x45_3).length : Int)
       rotate_left
       ·rw [if_neg c49] at H
        exact absurd H (by simp)
       rw [if_pos c49] at H
       have c49b0 : decide (1 < ((rd_L1 x43_3 x45_3).length : Int)) = true := decide_eq_true c49
       have c49b8 := c49b0
       (try simp only [hl43_3] at c49b8)
       have c49b1 : decide (1 < (rd_L1 x43_3 x45_3).length) = true := decide_eq_true (by omega)
       have c49b9 := c49b1
       (try simp only [hl43_3] at c49b9)
       clear c49
       by_cases c50 : (wrap64 ((Int.tmod (rd t260 x38_2) a0_0) + (rd (rd_L1 x43_3 x45_3) 0))) ≥ 0
       rotate_left
       ·rw [if_neg c50] at H
        have c50b0 : decide (0 ≤ (wrap64 ((Int.tmod (rd t260 x38_2) a0_0) + (rd (rd_L1 x43_3 x45_3) 0)))) = false := decide_eq_false c50
        clear c50
        have H' := Aside0.mk H
        clear H
        have p271 : 0 ≤ (x45_3 : Int) := of_decide_eq_true zh5
        have q271 : x45_3 < (x43_3.length : Int) := of_decide_eq_true zh5
        obtain ⟨ad271, A271_0, c271_0, e271, hx271_0, hl271_0, hi271_0⟩ := at_L1 (Kd.S_reads' HO_43.out).2.2 x45_3 p271 q271
        cases e271
        obtain ⟨ce271, hce271, hMe271, hcc271⟩ := Kd.S_get HO_43.out [] x45_3 p271 zh30
        obtain ⟨ve271_0, rfl, ge271_0⟩ := hMe271
        have hv271_0 := hcc271 0 _ rfl
        rw [Nat.add_zero, show ((Kd.slice 3 (Kd.int .i64))).sz = 1 from rfl, Nat.mul_one] at hv271_0
        replace hv271_0 := Option.some.inj (hv271_0.symm.trans hx271_0)
        rw [hv271_0] at ge271_0
        have HL271_0 := Aside0.mk (show Kd.R (Kd.int .i64) 3 _ _ _ _ (rd_L1 x43_3 x45_3) from ge271_0)
        clear hv271_0 ge271_0
        have HX271_0 := Aside0.mk hx271_0
        clear hcc271 hce271
        have HR271_0 := Aside0.mk hi271_0
        have HC271_0 := Aside0.mk hl271_0
        clear hi271_0 hl271_0
        replace p271 := eq_true p271
        replace q271 := eq_true q271
        try go_wp2
        have n0_ := Aside0.mk (Kd.R_drew HO_36.out)
        have n1_ := Aside0.mk (Kd.S_drew HO_43.out)
        have n2_ := Aside0.mk (Kd.R_drew HO_267005.out)
        have n3_ := Aside0.mk (Kd.S_drew HO_267006.out)
        have n4_ := Aside0.mk (Kd.R_drew HL271_0.out)
        have n5_ := Aside0.mk (blk_drew BK256.out)
        have n6_ := Aside0.mk (blk_drew BK257.out)
        have n7_ := Aside0.mk (blk_drew BK266.out)
        have n8_ := Aside0.mk (Kd.C_drew HR271_0.out)
        have n9_ := Aside0.mk (below_drew1 HB.out)
        have n10_ := Aside0.mk (show nb284_ ≤ (wr.drew).heap.size from zh10)
        clear HO_36
        clear HO_43
        clear HO_267005
        clear HO_267006
        clear HL271_0
        clear BK256
        clear BK257
        clear BK266
        clear HR271_0
        clear HB
        clear HNB284
        have HO_36 := n0_
        have HO_43 := n1_
        have HO_267005 := n2_
        have HO_267006 := n3_
        have HL271_0 := n4_
        have BK256 := n5_
        have BK257 := n6_
        have BK266 := n7_
        have HR271_0 := n8_
        have HB := n9_
        have HNB284 := n10_
        clear n0_ n1_ n2_ n3_ n4_ n5_ n6_ n7_ n8_ n9_ n10_
        have p272 : 0 ≤ (0 : Int) := (by omega)
        have q272 : 0 < ((rd_L1 x43_3 x45_3).length : Int) := of_decide_eq_true zh5
        obtain ⟨ad272, e272, hx272_0⟩ := Kd.at_int zh4 0 p272 q272
        cases e272
        have qi272 : (0 < (rd_L1 x43_3 x45_3).length) = True := eq_true (by omega)
        (try rw [show ((0 : Int)).toNat = 0 from rfl] at hx272_0)
        (try rw [Addr.add_zero'] at hx272_0)
        replace p272 := eq_true p272
        replace q272 := eq_true q272
        have p273 : 0 ≤ (1 : Int) := (by omega)
        have q273 : 1 < ((rd_L1 x43_3 x45_3).length : Int) := of_decide_eq_true zh5
        obtain ⟨ad273, e273, hx273_0⟩ := Kd.at_int zh4 1 p273 q273
        obtain rfl : ad272 = ad273 := (by injection e273)
        (try simp only [show (1 : Int).toNat = 1 from rfl, Nat.reduceMul, Nat.reduceEqDiff, Go.Addr.add, ↓reduceIte] at hx273_0)
        have qi273 : (1 < (rd_L1 x43_3 x45_3).length) = True := eq_true (by omega)
        (try rw [show ((1 : Int)).toNat = 1 from rfl] at hx273_0)
        replace p273 := eq_true p273
        replace q273 := eq_true q273
        refine start_ (n := 18) (S := fun w' => w'.cell? ⟨gb256, 0, none⟩ = some (.int .i64 a0_0) ∧ w'.cell? ⟨gb256, 1, none⟩ = some (.int .i64 a0_1) ∧ w'.cell? ⟨gb256, 2, none⟩ = some (.slice A0_2 l0_2.length c0_2) ∧ w'.cell? ad272 = some (.int .i64 (rd (rd_L1 x43_3 x45_3) 0)) ∧ w'.cell? ⟨ad272.block, ad272.off + 1, none⟩ = some (.int .i64 (rd (rd_L1 x43_3 x45_3) 1))) (ds := []) #[false, false, false, false, false, false, false, false, false, false, false, false, false, false, false, false, false, false] (by kernel_rfl) rfl rfl ⟨(blk_cell BK256.out 0).trans rfl, (blk_cell BK256.out 1).trans rfl, (blk_cell BK256.out 2).trans rfl, hx272_0, hx273_0⟩ (fun hHeld => ?_); refine with_tabW impl_graphOf.tab10 impl_graphOf.bits10 (fun HT_ HW_ => ?_)
        generalize wr.drew = w89 at HO_36 HO_43 HO_267005 HO_267006 HL271_0 BK256 BK257 BK266 HR271_0 HNB284 HB hx272_0 hx273_0 hHeld ⊢
        refine pure_ (i := 0) (N := some 49) (v := ?_) (a' := ?_) #[true, false, false, false, false, false, false, false, false, false, false, false, false, false, false, false, false, false] rfl rfl (any_of HT_.out (by kernel_rfl)) (fun _ _ _ h => h) (Or.inl ⟨by rfl, ?_⟩) ?_ ?_
        rotate_left
        ·intro w'
         go_simp
         with_reducible rfl
        rotate_left
        ·simp only [Act.put, List.setIfInBounds_toArray, List.set_cons_zero, List.set_cons_succ, i64_w, i32_w]
         rfl
        refine pure_ (i := 1) (N := some 50) (v := ?_) (a' := ?_) #[true, true, false, false, false, false, false, false, false, false, false, false, false, false, false, false, false, false] rfl rfl (any_of HT_.out (by kernel_rfl)) (fun _ _ _ h => h) (Or.inl ⟨by rfl, ?_⟩) ?_ ?_
        rotate_left
        ·intro w'
         go_simp
         with_reducible rfl
        rotate_left
        ·simp only [Act.put, List.setIfInBounds_toArray, List.set_cons_zero, List.set_cons_succ, i64_w, i32_w]
         rfl
        refine pure_ (i := 4) (N := some 53) (v := ?_) (a' := ?_) #[true, true, false, false, true, false, false, false, false, false, false, false, false, false, false, false, false, false] rfl rfl (any_of HT_.out (by kernel_rfl)) (fun _ _ _ h => h) (Or.inl ⟨by rfl, ?_⟩) ?_ ?_
        rotate_left
        ·intro w'
         go_simp
         with_reducible rfl
        rotate_left
        ·simp only [Act.put, List.setIfInBounds_toArray, List.set_cons_zero, List.set_cons_succ, i64_w, i32_w]
         rfl
        refine pure_ (i := 5) (N := some 54) (v := ?_) (a' := ?_) #[true, true, false, false, true, true, false, false, false, false, false, false, false, false, false, false, false, false] rfl rfl (any_of HT_.out (by kernel_rfl)) (fun _ _ _ h => h) (Or.inl ⟨by rfl, ?_⟩) ?_ ?_
        rotate_left
        ·intro w'
         go_simp
         with_reducible rfl
        rotate_left
        ·simp only [Act.put, List.setIfInBounds_toArray, List.set_cons_zero, List.set_cons_succ, i64_w, i32_w]
         rfl
        refine pure_ (i := 8) (N := some 57) (v := ?_) (a' := ?_) #[true, true, false, false, true, true, false, false, true, false, false, false, false, false, false, false, false, false] rfl rfl (any_of HT_.out (by kernel_rfl)) (fun _ _ _ h => h) (Or.inl ⟨by rfl, ?_⟩) ?_ ?_
        rotate_left
        ·intro w'
         go_simp
         with_reducible rfl
        rotate_left
        ·simp only [Act.put, List.setIfInBounds_toArray, List.set_cons_zero, List.set_cons_succ, i64_w, i32_w]
         rfl
        refine pure_ (i := 9) (N := some 58) (v := ?_) (a' := ?_) #[true, true, false, false, true, true, false, false, true, true, false, false, false, false, false, false, false, false] rfl rfl (any_of HT_.out (by kernel_rfl)) (fun _ _ _ h => h) (Or.inl ⟨by rfl, ?_⟩) ?_ ?_
        rotate_left
        ·intro w'
         go_simp
         with_reducible rfl
        rotate_left
        ·simp only [Act.put, List.setIfInBounds_toArray, List.set_cons_zero, List.set_cons_succ, i64_w, i32_w]
         rfl
        refine pure_ (i := 12) (N := some 61) (v := ?_) (a' := ?_) #[true, true, false, false, true, true, false, false, true, true, false, false, true, false, false, false, false, false] rfl rfl (any_of HT_.out (by kernel_rfl)) (fun _ _ _ h => h) (Or.inl ⟨by rfl, ?_⟩) ?_ ?_
        rotate_left
        ·intro w'
         go_simp
         with_reducible rfl
        rotate_left
        ·simp only [Act.put, List.setIfInBounds_toArray, List.set_cons_zero, List.set_cons_succ, i64_w, i32_w]
         rfl
        refine pure_ (i := 13) (N := some 62) (v := ?_) (a' := ?_) #[true, true, false, false, true, true, false, false, true, true, false, false, true, true, false, false, false, false] rfl rfl (any_of HT_.out (by kernel_rfl)) (fun _ _ _ h => h) (Or.inl ⟨by rfl, ?_⟩) ?_ ?_
        rotate_left
        ·intro w'
         go_simp
         with_reducible rfl
        rotate_left
        ·simp only [Act.put, List.setIfInBounds_toArray, List.set_cons_zero, List.set_cons_succ, i64_w, i32_w]
         rfl
        refine take_ (i := 2) (N := some 51) (v := ?_) (a' := ?_) #[true, true, true, false, true, true, false, false, true, true, false, false, true, true, false, false, false, false] rfl rfl (take_ofW HT_.out HW_.out (by kernel_rfl)) (fun _ _ _ h => h) (Or.inl ⟨by rfl, ?_⟩) hHeld ?_ ?_
        rotate_left
        ·rintro w' ⟨s0, s1, s2, s3, s4⟩
         go_simp
         with_reducible rfl
        rotate_left
        ·simp only [Act.put, List.setIfInBounds_toArray, List.set_cons_zero, List.set_cons_succ, i64_w, i32_w]
         rfl
        refine pure_ (i := 3) (N := some 52) (v := ?_) (a' := ?_) #[true, true, true, true, true, true, false, false, true, true, false, false, true, true, false, false, false, false] rfl rfl (any_of HT_.out (by kernel_rfl)) (fun _ _ _ h => h) (Or.inl ⟨by rfl, ?_⟩) ?_ ?_
        rotate_left
        ·intro w'
         go_simp
         with_reducible rfl
        rotate_left
        ·simp only [Act.put, List.setIfInBounds_toArray, List.set_cons_zero, List.set_cons_succ, i64_w, i32_w]
         rfl
        refine take_ (i := 6) (N := some 55) (v := ?_) (a' := ?_) #[true, true, true, true, true, true, true, false, true, true, false, false, true, true, false, false, false, false] rfl rfl (take_ofW HT_.out HW_.out (by kernel_rfl)) (fun _ _ _ h => h) (Or.inl ⟨by rfl, ?_⟩) hHeld ?_ ?_
        rotate_left
        ·rintro w' ⟨s0, s1, s2, s3, s4⟩
         go_simp
         with_reducible rfl
        rotate_left
        ·simp only [Act.put, List.setIfInBounds_toArray, List.set_cons_zero, List.set_cons_succ, i64_w, i32_w]
         rfl
        refine pure_ (i := 7) (N := some 56) (v := ?_) (a' := ?_) #[true, true, true, true, true, true, true, true, true, true, false, false, true, true, false, false, false, false] rfl rfl (any_of HT_.out (by kernel_rfl)) (fun _ _ _ h => h) (Or.inl ⟨by rfl, ?_⟩) ?_ ?_
        rotate_left
        ·intro w'
         go_simp
         with_reducible rfl
        rotate_left
        ·simp only [Act.put, List.setIfInBounds_toArray, List.set_cons_zero, List.set_cons_succ, i64_w, i32_w]
         rfl
        refine pure_ (i := 16) (N := some 11) (v := ?_) (a' := ?_) #[true, true, true, true, true, true, true, true, true, true, false, false, true, true, false, false, true, false] rfl rfl (any_of HT_.out (by kernel_rfl)) (fun _ _ _ h => h) (Or.inl ⟨by rfl, ?_⟩) ?_ ?_
        rotate_left
        ·intro w'
         go_simp
         with_reducible rfl
        rotate_left
        ·simp only [Act.put, List.setIfInBounds_toArray, List.set_cons_zero, List.set_cons_succ, i64_w, i32_w]
         rfl
        refine take_ (i := 10) (N := some 59) (v := ?_) (a' := ?_) #[true, true, true, true, true, true, true, true, true, true, true, false, true, true, false, false, true, false] rfl rfl (take_ofW HT_.out HW_.out (by kernel_rfl)) (fun _ _ _ h => h) (Or.inl ⟨by rfl, ?_⟩) hHeld ?_ ?_
        rotate_left
        ·rintro w' ⟨s0, s1, s2, s3, s4⟩
         go_simp
         with_reducible rfl
        rotate_left
        ·simp only [Act.put, List.setIfInBounds_toArray, List.set_cons_zero, List.set_cons_succ, i64_w, i32_w]
         rfl
        refine pure_ (i := 11) (N := some 60) (v := ?_) (a' := ?_) #[true, true, true, true, true, true, true, true, true, true, true, true, true, true, false, false, true, false] rfl rfl (any_of HT_.out (by kernel_rfl)) (fun _ _ _ h => h) (Or.inl ⟨by rfl, ?_⟩) ?_ ?_
        rotate_left
        ·intro w'
         go_simp
         with_reducible rfl
        rotate_left
        ·simp only [Act.put, List.setIfInBounds_toArray, List.set_cons_zero, List.set_cons_succ, i64_w, i32_w]
         rfl
        refine take_ (i := 14) (N := some 63) (v := ?_) (a' := ?_) #[true, true, true, true, true, true, true, true, true, true, true, true, true, true, true, false, true, false] rfl rfl (take_ofW HT_.out HW_.out (by kernel_rfl)) (fun _ _ _ h => h) (Or.inl ⟨by rfl, ?_⟩) hHeld ?_ ?_
        rotate_left
        ·rintro w' ⟨s0, s1, s2, s3, s4⟩
         go_simp
         with_reducible rfl
        rotate_left
        ·simp only [Act.put, List.setIfInBounds_toArray, List.set_cons_zero, List.set_cons_succ, i64_w, i32_w]
         rfl
        refine pure_ (i := 15) (N := some 64) (v := ?_) (a' := ?_) #[true, true, true, true, true, true, true, true, true, true, true, true, true, true, true, true, true, false] rfl rfl (any_of HT_.out (by kernel_rfl)) (fun _ _ _ h => h) (Or.inl ⟨by rfl, ?_⟩) ?_ ?_
        rotate_left
        ·intro w'
         go_simp
         with_reducible rfl
        rotate_left
        ·simp only [Act.put, List.setIfInBounds_toArray, List.set_cons_zero, List.set_cons_succ, i64_w, i32_w]
         rfl
        refine pure_ (i := 17) (N := some 12) (v := ?_) (a' := ?_) #[true, true, true, true, true, true, true, true, true, true, true, true, true, true, true, true, true, true] rfl rfl (any_of HT_.out (by kernel_rfl)) (fun _ _ _ h => h) (Or.inl ⟨by rfl, ?_⟩) ?_ ?_
        rotate_left
        ·intro w'
         go_simp
         with_reducible rfl
        rotate_left
        ·simp only [Act.put, List.setIfInBounds_toArray, List.set_cons_zero, List.set_cons_succ, i64_w, i32_w]
         rfl
        refine done_ (done_of HT_.out (by kernel_rfl)) ?_
        try go_wp2
        (try simp only [← hl43_3])
        go_roundg k3
        case measure => have := HJ2.out; have := HK2.out; have := HK3.out; omega
        case rel => exact ⟨(x43_3), (wrap64 (x45_3 + 1)), (x267006_3), (u267006), zh22, H', ⟨zh25⟩, ⟨zh18⟩, ⟨zh21⟩, ⟨zh17⟩, ⟨zh20⟩, ⟨zh15⟩, ⟨zh14⟩, ⟨zh13⟩, ⟨zh10⟩, ⟨zh1⟩⟩
       rw [if_pos c50] at H
       have c50b0 : decide (0 ≤ (wrap64 ((Int.tmod (rd t260 x38_2) a0_0) + (rd (rd_L1 x43_3 x45_3) 0)))) = true := decide_eq_true c50
       clear c50
       by_cases c51 : (wrap64 ((Int.tmod (rd t260 x38_2) a0_0) + (rd (rd_L1 x43_3 x45_3) 0))) < a0_0
       rotate_left
       ·rw [if_neg c51] at H
        have c51b0 : decide ((wrap64 ((Int.tmod (rd t260 x38_2) a0_0) + (rd (rd_L1 x43_3 x45_3) 0))) < a0_0) = false := decide_eq_false c51
        clear c51
        have H' := Aside0.mk H
        clear H
        have p271 : 0 ≤ (x45_3 : Int) := of_decide_eq_true zh5
        have q271 : x45_3 < (x43_3.length : Int) := of_decide_eq_true zh5
        obtain ⟨ad271, A271_0, c271_0, e271, hx271_0, hl271_0, hi271_0⟩ := at_L1 (Kd.S_reads' HO_43.out).2.2 x45_3 p271 q271
        cases e271
        obtain ⟨ce271, hce271, hMe271, hcc271⟩ := Kd.S_get HO_43.out [] x45_3 p271 zh30
        obtain ⟨ve271_0, rfl, ge271_0⟩ := hMe271
        have hv271_0 := hcc271 0 _ rfl
        rw [Nat.add_zero, show ((Kd.slice 3 (Kd.int .i64))).sz = 1 from rfl, Nat.mul_one] at hv271_0
        replace hv271_0 := Option.some.inj (hv271_0.symm.trans hx271_0)
        rw [hv271_0] at ge271_0
        have HL271_0 := Aside0.mk (show Kd.R (Kd.int .i64) 3 _ _ _ _ (rd_L1 x43_3 x45_3) from ge271_0)
        clear hv271_0 ge271_0
        have HX271_0 := Aside0.mk hx271_0
        clear hcc271 hce271
        have HR271_0 := Aside0.mk hi271_0
        have HC271_0 := Aside0.mk hl271_0
        clear hi271_0 hl271_0
        replace p271 := eq_true p271
        replace q271 := eq_true q271
        try go_wp2
        have n0_ := Aside0.mk (Kd.R_drew HO_36.out)
        have n1_ := Aside0.mk (Kd.S_drew HO_43.out)
        have n2_ := Aside0.mk (Kd.R_drew HO_267005.out)
        have n3_ := Aside0.mk (Kd.S_drew HO_267006.out)
        have n4_ := Aside0.mk (Kd.R_drew HL271_0.out)
        have n5_ := Aside0.mk (blk_drew BK256.out)
        have n6_ := Aside0.mk (blk_drew BK257.out)
        have n7_ := Aside0.mk (blk_drew BK266.out)
        have n8_ := Aside0.mk (Kd.C_drew HR271_0.out)
        have n9_ := Aside0.mk (below_drew1 HB.out)
        have n10_ := Aside0.mk (show nb284_ ≤ (wr.drew).heap.size from zh10)
        clear HO_36
        clear HO_43
        clear HO_267005
        clear HO_267006
        clear HL271_0
        clear BK256
        clear BK257
        clear BK266
        clear HR271_0
        clear HB
        clear HNB284
        have HO_36 := n0_
        have HO_43 := n1_
        have HO_267005 := n2_
        have HO_267006 := n3_
        have HL271_0 := n4_
        have BK256 := n5_
        have BK257 := n6_
        have BK266 := n7_
        have HR271_0 := n8_
        have HB := n9_
        have HNB284 := n10_
        clear n0_ n1_ n2_ n3_ n4_ n5_ n6_ n7_ n8_ n9_ n10_
        have p272 : 0 ≤ (0 : Int) := (by omega)
        have q272 : 0 < ((rd_L1 x43_3 x45_3).length : Int) := of_decide_eq_true zh5
        obtain ⟨ad272, e272, hx272_0⟩ := Kd.at_int zh4 0 p272 q272
        cases e272
        have qi272 : (0 < (rd_L1 x43_3 x45_3).length) = True := eq_true (by omega)
        (try rw [show ((0 : Int)).toNat = 0 from rfl] at hx272_0)
        (try rw [Addr.add_zero'] at hx272_0)
        replace p272 := eq_true p272
        replace q272 := eq_true q272
        have p273 : 0 ≤ (1 : Int) := (by omega)
        have q273 : 1 < ((rd_L1 x43_3 x45_3).length : Int) := of_decide_eq_true zh5
        obtain ⟨ad273, e273, hx273_0⟩ := Kd.at_int zh4 1 p273 q273
        obtain rfl : ad272 = ad273 := (by injection e273)
        (try simp only [show (1 : Int).toNat = 1 from rfl, Nat.reduceMul, Nat.reduceEqDiff, Go.Addr.add, ↓reduceIte] at hx273_0)
        have qi273 : (1 < (rd_L1 x43_3 x45_3).length) = True := eq_true (by omega)
        (try rw [show ((1 : Int)).toNat = 1 from rfl] at hx273_0)
        replace p273 := eq_true p273
        replace q273 := eq_true q273
        refine start_ (n := 18) (S := fun w' => w'.cell? ⟨gb256, 0, none⟩ = some (.int .i64 a0_0) ∧ w'.cell? ⟨gb256, 1, none⟩ = some (.int .i64 a0_1) ∧ w'.cell? ⟨gb256, 2, none⟩ = some (.slice A0_2 l0_2.length c0_2) ∧ w'.cell? ad272 = some (.int .i64 (rd (rd_L1 x43_3 x45_3) 0)) ∧ w'.cell? ⟨ad272.block, ad272.off + 1, none⟩ = some (.int .i64 (rd (rd_L1 x43_3 x45_3) 1))) (ds := []) #[false, false, false, false, false, false, false, false, false, false, false, false, false, false, false, false, false, false] (by kernel_rfl) rfl rfl ⟨(blk_cell BK256.out 0).trans rfl, (blk_cell BK256.out 1).trans rfl, (blk_cell BK256.out 2).trans rfl, hx272_0, hx273_0⟩ (fun hHeld => ?_); refine with_tabW impl_graphOf.tab10 impl_graphOf.bits10 (fun HT_ HW_ => ?_)
        generalize wr.drew = w85 at HO_36 HO_43 HO_267005 HO_267006 HL271_0 BK256 BK257 BK266 HR271_0 HNB284 HB hx272_0 hx273_0 hHeld ⊢
        refine pure_ (i := 0) (N := some 49) (v := ?_) (a' := ?_) #[true, false, false, false, false, false, false, false, false, false, false, false, false, false, false, false, false, false] rfl rfl (any_of HT_.out (by kernel_rfl)) (fun _ _ _ h => h) (Or.inl ⟨by rfl, ?_⟩) ?_ ?_
        rotate_left
        ·intro w'
         go_simp
         with_reducible rfl
        rotate_left
        ·simp only [Act.put, List.setIfInBounds_toArray, List.set_cons_zero, List.set_cons_succ, i64_w, i32_w]
         rfl
        refine pure_ (i := 1) (N := some 50) (v := ?_) (a' := ?_) #[true, true, false, false, false, false, false, false, false, false, false, false, false, false, false, false, false, false] rfl rfl (any_of HT_.out (by kernel_rfl)) (fun _ _ _ h => h) (Or.inl ⟨by rfl, ?_⟩) ?_ ?_
        rotate_left
        ·intro w'
         go_simp
         with_reducible rfl
        rotate_left
        ·simp only [Act.put, List.setIfInBounds_toArray, List.set_cons_zero, List.set_cons_succ, i64_w, i32_w]
         rfl
        refine pure_ (i := 4) (N := some 53) (v := ?_) (a' := ?_) #[true, true, false, false, true, false, false, false, false, false, false, false, false, false, false, false, false, false] rfl rfl (any_of HT_.out (by kernel_rfl)) (fun _ _ _ h => h) (Or.inl ⟨by rfl, ?_⟩) ?_ ?_
        rotate_left
        ·intro w'
         go_simp
         with_reducible rfl
        rotate_left
        ·simp only [Act.put, List.setIfInBounds_toArray, List.set_cons_zero, List.set_cons_succ, i64_w, i32_w]
         rfl
        refine pure_ (i := 5) (N := some 54) (v := ?_) (a' := ?_) #[true, true, false, false, true, true, false, false, false, false, false, false, false, false, false, false, false, false] rfl rfl (any_of HT_.out (by kernel_rfl)) (fun _ _ _ h => h) (Or.inl ⟨by rfl, ?_⟩) ?_ ?_
        rotate_left
        ·intro w'
         go_simp
         with_reducible rfl
        rotate_left
        ·simp only [Act.put, List.setIfInBounds_toArray, List.set_cons_zero, List.set_cons_succ, i64_w, i32_w]
         rfl
        refine pure_ (i := 8) (N := some 57) (v := ?_) (a' := ?_) #[true, true, false, false, true, true, false, false, true, false, false, false, false, false, false, false, false, false] rfl rfl (any_of HT_.out (by kernel_rfl)) (fun _ _ _ h => h) (Or.inl ⟨by rfl, ?_⟩) ?_ ?_
        rotate_left
        ·intro w'
         go_simp
         with_reducible rfl
        rotate_left
        ·simp only [Act.put, List.setIfInBounds_toArray, List.set_cons_zero, List.set_cons_succ, i64_w, i32_w]
         rfl
        refine pure_ (i := 9) (N := some 58) (v := ?_) (a' := ?_) #[true, true, false, false, true, true, false, false, true, true, false, false, false, false, false, false, false, false] rfl rfl (any_of HT_.out (by kernel_rfl)) (fun _ _ _ h => h) (Or.inl ⟨by rfl, ?_⟩) ?_ ?_
        rotate_left
        ·intro w'
         go_simp
         with_reducible rfl
        rotate_left
        ·simp only [Act.put, List.setIfInBounds_toArray, List.set_cons_zero, List.set_cons_succ, i64_w, i32_w]
         rfl
        refine pure_ (i := 12) (N := some 61) (v := ?_) (a' := ?_) #[true, true, false, false, true, true, false, false, true, true, false, false, true, false, false, false, false, false] rfl rfl (any_of HT_.out (by kernel_rfl)) (fun _ _ _ h => h) (Or.inl ⟨by rfl, ?_⟩) ?_ ?_
        rotate_left
        ·intro w'
         go_simp
         with_reducible rfl
        rotate_left
        ·simp only [Act.put, List.setIfInBounds_toArray, List.set_cons_zero, List.set_cons_succ, i64_w, i32_w]
         rfl
        refine pure_ (i := 13) (N := some 62) (v := ?_) (a' := ?_) #[true, true, false, false, true, true, false, false, true, true, false, false, true, true, false, false, false, false] rfl rfl (any_of HT_.out (by kernel_rfl)) (fun _ _ _ h => h) (Or.inl ⟨by rfl, ?_⟩) ?_ ?_
        rotate_left
        ·intro w'
         go_simp
         with_reducible rfl
        rotate_left
        ·simp only [Act.put, List.setIfInBounds_toArray, List.set_cons_zero, List.set_cons_succ, i64_w, i32_w]
         rfl
        refine take_ (i := 2) (N := some 51) (v := ?_) (a' := ?_) #[true, true, true, false, true, true, false, false, true, true, false, false, true, true, false, false, false, false] rfl rfl (take_ofW HT_.out HW_.out (by kernel_rfl)) (fun _ _ _ h => h) (Or.inl ⟨by rfl, ?_⟩) hHeld ?_ ?_
        rotate_left
        ·rintro w' ⟨s0, s1, s2, s3, s4⟩
         go_simp
         with_reducible rfl
        rotate_left
        ·simp only [Act.put, List.setIfInBounds_toArray, List.set_cons_zero, List.set_cons_succ, i64_w, i32_w]
         rfl
        refine pure_ (i := 3) (N := some 52) (v := ?_) (a' := ?_) #[true, true, true, true, true, true, false, false, true, true, false, false, true, true, false, false, false, false] rfl rfl (any_of HT_.out (by kernel_rfl)) (fun _ _ _ h => h) (Or.inl ⟨by rfl, ?_⟩) ?_ ?_
        rotate_left
        ·intro w'
         go_simp
         with_reducible rfl
        rotate_left
        ·simp only [Act.put, List.setIfInBounds_toArray, List.set_cons_zero, List.set_cons_succ, i64_w, i32_w]
         rfl
        refine take_ (i := 6) (N := some 55) (v := ?_) (a' := ?_) #[true, true, true, true, true, true, true, false, true, true, false, false, true, true, false, false, false, false] rfl rfl (take_ofW HT_.out HW_.out (by kernel_rfl)) (fun _ _ _ h => h) (Or.inl ⟨by rfl, ?_⟩) hHeld ?_ ?_
        rotate_left
        ·rintro w' ⟨s0, s1, s2, s3, s4⟩
         go_simp
         with_reducible rfl
        rotate_left
        ·simp only [Act.put, List.setIfInBounds_toArray, List.set_cons_zero, List.set_cons_succ, i64_w, i32_w]
         rfl
        refine pure_ (i := 7) (N := some 56) (v := ?_) (a' := ?_) #[true, true, true, true, true, true, true, true, true, true, false, false, true, true, false, false, false, false] rfl rfl (any_of HT_.out (by kernel_rfl)) (fun _ _ _ h => h) (Or.inl ⟨by rfl, ?_⟩) ?_ ?_
        rotate_left
        ·intro w'
         go_simp
         with_reducible rfl
        rotate_left
        ·simp only [Act.put, List.setIfInBounds_toArray, List.set_cons_zero, List.set_cons_succ, i64_w, i32_w]
         rfl
        refine pure_ (i := 16) (N := some 11) (v := ?_) (a' := ?_) #[true, true, true, true, true, true, true, true, true, true, false, false, true, true, false, false, true, false] rfl rfl (any_of HT_.out (by kernel_rfl)) (fun _ _ _ h => h) (Or.inl ⟨by rfl, ?_⟩) ?_ ?_
        rotate_left
        ·intro w'
         go_simp
         with_reducible rfl
        rotate_left
        ·simp only [Act.put, List.setIfInBounds_toArray, List.set_cons_zero, List.set_cons_succ, i64_w, i32_w]
         rfl
        refine take_ (i := 10) (N := some 59) (v := ?_) (a' := ?_) #[true, true, true, true, true, true, true, true, true, true, true, false, true, true, false, false, true, false] rfl rfl (take_ofW HT_.out HW_.out (by kernel_rfl)) (fun _ _ _ h => h) (Or.inl ⟨by rfl, ?_⟩) hHeld ?_ ?_
        rotate_left
        ·rintro w' ⟨s0, s1, s2, s3, s4⟩
         go_simp
         with_reducible rfl
        rotate_left
        ·simp only [Act.put, List.setIfInBounds_toArray, List.set_cons_zero, List.set_cons_succ, i64_w, i32_w]
         rfl
        refine pure_ (i := 11) (N := some 60) (v := ?_) (a' := ?_) #[true, true, true, true, true, true, true, true, true, true, true, true, true, true, false, false, true, false] rfl rfl (any_of HT_.out (by kernel_rfl)) (fun _ _ _ h => h) (Or.inl ⟨by rfl, ?_⟩) ?_ ?_
        rotate_left
        ·intro w'
         go_simp
         with_reducible rfl
        rotate_left
        ·simp only [Act.put, List.setIfInBounds_toArray, List.set_cons_zero, List.set_cons_succ, i64_w, i32_w]
         rfl
        refine take_ (i := 14) (N := some 63) (v := ?_) (a' := ?_) #[true, true, true, true, true, true, true, true, true, true, true, true, true, true, true, false, true, false] rfl rfl (take_ofW HT_.out HW_.out (by kernel_rfl)) (fun _ _ _ h => h) (Or.inl ⟨by rfl, ?_⟩) hHeld ?_ ?_
        rotate_left
        ·rintro w' ⟨s0, s1, s2, s3, s4⟩
         go_simp
         with_reducible rfl
        rotate_left
        ·simp only [Act.put, List.setIfInBounds_toArray, List.set_cons_zero, List.set_cons_succ, i64_w, i32_w]
         rfl
        refine pure_ (i := 15) (N := some 64) (v := ?_) (a' := ?_) #[true, true, true, true, true, true, true, true, true, true, true, true, true, true, true, true, true, false] rfl rfl (any_of HT_.out (by kernel_rfl)) (fun _ _ _ h => h) (Or.inl ⟨by rfl, ?_⟩) ?_ ?_
        rotate_left
        ·intro w'
         go_simp
         with_reducible rfl
        rotate_left
        ·simp only [Act.put, List.setIfInBounds_toArray, List.set_cons_zero, List.set_cons_succ, i64_w, i32_w]
         rfl
        refine pure_ (i := 17) (N := some 12) (v := ?_) (a' := ?_) #[true, true, true, true, true, true, true, true, true, true, true, true, true, true, true, true, true, true] rfl rfl (any_of HT_.out (by kernel_rfl)) (fun _ _ _ h => h) (Or.inl ⟨by rfl, ?_⟩) ?_ ?_
        rotate_left
        ·intro w'
         go_simp
         with_reducible rfl
        rotate_left
        ·simp only [Act.put, List.setIfInBounds_toArray, List.set_cons_zero, List.set_cons_succ, i64_w, i32_w]
         rfl
        refine done_ (done_of HT_.out (by kernel_rfl)) ?_
        have hnb86 := NB256_257.out
        have hnc86 := NB257_256.out
        have hnb87 := NB256_266.out
        have hnc87 := NB266_256.out
        have hcz88_0 : w85.cell? ⟨gb256, 0, none⟩ = some (.int .i64 a0_0) := (blk_cell BK256.out 0).trans rfl
        have hcz88_1 : w85.cell? ⟨gb256, 1, none⟩ = some (.int .i64 a0_1) := (blk_cell BK256.out 1).trans rfl
        have hcz88_2 : w85.cell? ⟨gb256, 2, none⟩ = some (.slice A0_2 l0_2.length c0_2) := (blk_cell BK256.out 2).trans rfl
        have hfz88_0 := blk_frozen BK256.out 0
        have hfz88_1 := blk_frozen BK256.out 1
        have hfz88_2 := blk_frozen BK256.out 2
        try go_wp2
        (try simp only [← hl43_3])
        go_roundg k3
        case measure => have := HJ2.out; have := HK2.out; have := HK3.out; omega
        case rel => exact ⟨(x43_3), (wrap64 (x45_3 + 1)), (x267006_3), (u267006), zh22, H', ⟨zh25⟩, ⟨zh18⟩, ⟨zh21⟩, ⟨zh17⟩, ⟨zh20⟩, ⟨zh15⟩, ⟨zh14⟩, ⟨zh13⟩, ⟨zh10⟩, ⟨zh1⟩⟩
       rw [if_pos c51] at H
       have c51b0 : decide ((wrap64 ((Int.tmod (rd t260 x38_2) a0_0) + (rd (rd_L1 x43_3 x45_3) 0))) < a0_0) = true := decide_eq_true c51
       clear c51
       by_cases c52 : (wrap64 ((wrap64 (Int.tdiv (rd t260 x38_2) a0_0)) + (rd (rd_L1 x43_3 x45_3) 1))) ≥ 0
       rotate_left
       ·rw [if_neg c52] at H
        have c52b0 : decide (0 ≤ (wrap64 ((wrap64 (Int.tdiv (rd t260 x38_2) a0_0)) + (rd (rd_L1 x43_3 x45_3) 1)))) = false := decide_eq_false c52
        clear c52
        have H' := Aside0.mk H
        clear H
        have p271 : 0 ≤ (x45_3 : Int) := of_decide_eq_true zh5
        have q271 : x45_3 < (x43_3.length : Int) := of_decide_eq_true zh5
        obtain ⟨ad271, A271_0, c271_0, e271, hx271_0, hl271_0, hi271_0⟩ := at_L1 (Kd.S_reads' HO_43.out).2.2 x45_3 p271 q271
        cases e271
        obtain ⟨ce271, hce271, hMe271, hcc271⟩ := Kd.S_get HO_43.out [] x45_3 p271 zh30
        obtain ⟨ve271_0, rfl, ge271_0⟩ := hMe271
        have hv271_0 := hcc271 0 _ rfl
        rw [Nat.add_zero, show ((Kd.slice 3 (Kd.int .i64))).sz = 1 from rfl, Nat.mul_one] at hv271_0
        replace hv271_0 := Option.some.inj (hv271_0.symm.trans hx271_0)
        rw [hv271_0] at ge271_0
        have HL271_0 := Aside0.mk (show Kd.R (Kd.int .i64) 3 _ _ _ _ (rd_L1 x43_3 x45_3) from ge271_0)
        clear hv271_0 ge271_0
        have HX271_0 := Aside0.mk hx271_0
        clear hcc271 hce271
        have HR271_0 := Aside0.mk hi271_0
        have HC271_0 := Aside0.mk hl271_0
        clear hi271_0 hl271_0
        replace p271 := eq_true p271
        replace q271 := eq_true q271
        try go_wp2
        have n0_ := Aside0.mk (Kd.R_drew HO_36.out)
        have n1_ := Aside0.mk (Kd.S_drew HO_43.out)
        have n2_ := Aside0.mk (Kd.R_drew HO_267005.out)
        have n3_ := Aside0.mk (Kd.S_drew HO_267006.out)
        have n4_ := Aside0.mk (Kd.R_drew HL271_0.out)
        have n5_ := Aside0.mk (blk_drew BK256.out)
        have n6_ := Aside0.mk (blk_drew BK257.out)
        have n7_ := Aside0.mk (blk_drew BK266.out)
        have n8_ := Aside0.mk (Kd.C_drew HR271_0.out)
        have n9_ := Aside0.mk (below_drew1 HB.out)
        have n10_ := Aside0.mk (show nb284_ ≤ (wr.drew).heap.size from zh10)
        clear HO_36
        clear HO_43
        clear HO_267005
        clear HO_267006
        clear HL271_0
        clear BK256
        clear BK257
        clear BK266
        clear HR271_0
        clear HB
        clear HNB284
        have HO_36 := n0_
        have HO_43 := n1_
        have HO_267005 := n2_
        have HO_267006 := n3_
        have HL271_0 := n4_
        have BK256 := n5_
        have BK257 := n6_
        have BK266 := n7_
        have HR271_0 := n8_
        have HB := n9_
        have HNB284 := n10_
        clear n0_ n1_ n2_ n3_ n4_ n5_ n6_ n7_ n8_ n9_ n10_
        have p272 : 0 ≤ (0 : Int) := (by omega)
        have q272 : 0 < ((rd_L1 x43_3 x45_3).length : Int) := of_decide_eq_true zh5
        obtain ⟨ad272, e272, hx272_0⟩ := Kd.at_int zh4 0 p272 q272
        cases e272
        have qi272 : (0 < (rd_L1 x43_3 x45_3).length) = True := eq_true (by omega)
        (try rw [show ((0 : Int)).toNat = 0 from rfl] at hx272_0)
        (try rw [Addr.add_zero'] at hx272_0)
        replace p272 := eq_true p272
        replace q272 := eq_true q272
        have p273 : 0 ≤ (1 : Int) := (by omega)
        have q273 : 1 < ((rd_L1 x43_3 x45_3).length : Int) := of_decide_eq_true zh5
        obtain ⟨ad273, e273, hx273_0⟩ := Kd.at_int zh4 1 p273 q273
        obtain rfl : ad272 = ad273 := (by injection e273)
        (try simp only [show (1 : Int).toNat = 1 from rfl, Nat.reduceMul, Nat.reduceEqDiff, Go.Addr.add, ↓reduceIte] at hx273_0)
        have qi273 : (1 < (rd_L1 x43_3 x45_3).length) = True := eq_true (by omega)
        (try rw [show ((1 : Int)).toNat = 1 from rfl] at hx273_0)
        replace p273 := eq_true p273
        replace q273 := eq_true q273
        refine start_ (n := 18) (S := fun w' => w'.cell? ⟨gb256, 0, none⟩ = some (.int .i64 a0_0) ∧ w'.cell? ⟨gb256, 1, none⟩ = some (.int .i64 a0_1) ∧ w'.cell? ⟨gb256, 2, none⟩ = some (.slice A0_2 l0_2.length c0_2) ∧ w'.cell? ad272 = some (.int .i64 (rd (rd_L1 x43_3 x45_3) 0)) ∧ w'.cell? ⟨ad272.block, ad272.off + 1, none⟩ = some (.int .i64 (rd (rd_L1 x43_3 x45_3) 1))) (ds := []) #[false, false, false, false, false, false, false, false, false, false, false, false, false, false, false, false, false, false] (by kernel_rfl) rfl rfl ⟨(blk_cell BK256.out 0).trans rfl, (blk_cell BK256.out 1).trans rfl, (blk_cell BK256.out 2).trans rfl, hx272_0, hx273_0⟩ (fun hHeld => ?_); refine with_tabW impl_graphOf.tab10 impl_graphOf.bits10 (fun HT_ HW_ => ?_)
        generalize wr.drew = w81 at HO_36 HO_43 HO_267005 HO_267006 HL271_0 BK256 BK257 BK266 HR271_0 HNB284 HB hx272_0 hx273_0 hHeld ⊢
        refine pure_ (i := 0) (N := some 49) (v := ?_) (a' := ?_) #[true, false, false, false, false, false, false, false, false, false, false, false, false, false, false, false, false, false] rfl rfl (any_of HT_.out (by kernel_rfl)) (fun _ _ _ h => h) (Or.inl ⟨by rfl, ?_⟩) ?_ ?_
        rotate_left
        ·intro w'
         go_simp
         with_reducible rfl
        rotate_left
        ·simp only [Act.put, List.setIfInBounds_toArray, List.set_cons_zero, List.set_cons_succ, i64_w, i32_w]
         rfl
        refine pure_ (i := 1) (N := some 50) (v := ?_) (a' := ?_) #[true, true, false, false, false, false, false, false, false, false, false, false, false, false, false, false, false, false] rfl rfl (any_of HT_.out (by kernel_rfl)) (fun _ _ _ h => h) (Or.inl ⟨by rfl, ?_⟩) ?_ ?_
        rotate_left
        ·intro w'
         go_simp
         with_reducible rfl
        rotate_left
        ·simp only [Act.put, List.setIfInBounds_toArray, List.set_cons_zero, List.set_cons_succ, i64_w, i32_w]
         rfl
        refine pure_ (i := 4) (N := some 53) (v := ?_) (a' := ?_) #[true, true, false, false, true, false, false, false, false, false, false, false, false, false, false, false, false, false] rfl rfl (any_of HT_.out (by kernel_rfl)) (fun _ _ _ h => h) (Or.inl ⟨by rfl, ?_⟩) ?_ ?_
        rotate_left
        ·intro w'
         go_simp
         with_reducible rfl
        rotate_left
        ·simp only [Act.put, List.setIfInBounds_toArray, List.set_cons_zero, List.set_cons_succ, i64_w, i32_w]
         rfl
        refine pure_ (i := 5) (N := some 54) (v := ?_) (a' := ?_) #[true, true, false, false, true, true, false, false, false, false, false, false, false, false, false, false, false, false] rfl rfl (any_of HT_.out (by kernel_rfl)) (fun _ _ _ h => h) (Or.inl ⟨by rfl, ?_⟩) ?_ ?_
        rotate_left
        ·intro w'
         go_simp
         with_reducible rfl
        rotate_left
        ·simp only [Act.put, List.setIfInBounds_toArray, List.set_cons_zero, List.set_cons_succ, i64_w, i32_w]
         rfl
        refine pure_ (i := 8) (N := some 57) (v := ?_) (a' := ?_) #[true, true, false, false, true, true, false, false, true, false, false, false, false, false, false, false, false, false] rfl rfl (any_of HT_.out (by kernel_rfl)) (fun _ _ _ h => h) (Or.inl ⟨by rfl, ?_⟩) ?_ ?_
        rotate_left
        ·intro w'
         go_simp
         with_reducible rfl
        rotate_left
        ·simp only [Act.put, List.setIfInBounds_toArray, List.set_cons_zero, List.set_cons_succ, i64_w, i32_w]
         rfl
        refine pure_ (i := 9) (N := some 58) (v := ?_) (a' := ?_) #[true, true, false, false, true, true, false, false, true, true, false, false, false, false, false, false, false, false] rfl rfl (any_of HT_.out (by kernel_rfl)) (fun _ _ _ h => h) (Or.inl ⟨by rfl, ?_⟩) ?_ ?_
        rotate_left
        ·intro w'
         go_simp
         with_reducible rfl
        rotate_left
        ·simp only [Act.put, List.setIfInBounds_toArray, List.set_cons_zero, List.set_cons_succ, i64_w, i32_w]
         rfl
        refine pure_ (i := 12) (N := some 61) (v := ?_) (a' := ?_) #[true, true, false, false, true, true, false, false, true, true, false, false, true, false, false, false, false, false] rfl rfl (any_of HT_.out (by kernel_rfl)) (fun _ _ _ h => h) (Or.inl ⟨by rfl, ?_⟩) ?_ ?_
        rotate_left
        ·intro w'
         go_simp
         with_reducible rfl
        rotate_left
        ·simp only [Act.put, List.setIfInBounds_toArray, List.set_cons_zero, List.set_cons_succ, i64_w, i32_w]
         rfl
        refine pure_ (i := 13) (N := some 62) (v := ?_) (a' := ?_) #[true, true, false, false, true, true, false, false, true, true, false, false, true, true, false, false, false, false] rfl rfl (any_of HT_.out (by kernel_rfl)) (fun _ _ _ h => h) (Or.inl ⟨by rfl, ?_⟩) ?_ ?_
        rotate_left
        ·intro w'
         go_simp
         with_reducible rfl
        rotate_left
        ·simp only [Act.put, List.setIfInBounds_toArray, List.set_cons_zero, List.set_cons_succ, i64_w, i32_w]
         rfl
        refine take_ (i := 2) (N := some 51) (v := ?_) (a' := ?_) #[true, true, true, false, true, true, false, false, true, true, false, false, true, true, false, false, false, false] rfl rfl (take_ofW HT_.out HW_.out (by kernel_rfl)) (fun _ _ _ h => h) (Or.inl ⟨by rfl, ?_⟩) hHeld ?_ ?_
        rotate_left
        ·rintro w' ⟨s0, s1, s2, s3, s4⟩
         go_simp
         with_reducible rfl
        rotate_left
        ·simp only [Act.put, List.setIfInBounds_toArray, List.set_cons_zero, List.set_cons_succ, i64_w, i32_w]
         rfl
        refine pure_ (i := 3) (N := some 52) (v := ?_) (a' := ?_) #[true, true, true, true, true, true, false, false, true, true, false, false, true, true, false, false, false, false] rfl rfl (any_of HT_.out (by kernel_rfl)) (fun _ _ _ h => h) (Or.inl ⟨by rfl, ?_⟩) ?_ ?_
        rotate_left
        ·intro w'
         go_simp
         with_reducible rfl
        rotate_left
        ·simp only [Act.put, List.setIfInBounds_toArray, List.set_cons_zero, List.set_cons_succ, i64_w, i32_w]
         rfl
        refine take_ (i := 6) (N := some 55) (v := ?_) (a' := ?_) #[true, true, true, true, true, true, true, false, true, true, false, false, true, true, false, false, false, false] rfl rfl (take_ofW HT_.out HW_.out (by kernel_rfl)) (fun _ _ _ h => h) (Or.inl ⟨by rfl, ?_⟩) hHeld ?_ ?_
        rotate_left
        ·rintro w' ⟨s0, s1, s2, s3, s4⟩
         go_simp
         with_reducible rfl
        rotate_left
        ·simp only [Act.put, List.setIfInBounds_toArray, List.set_cons_zero, List.set_cons_succ, i64_w, i32_w]
         rfl
        refine pure_ (i := 7) (N := some 56) (v := ?_) (a' := ?_) #[true, true, true, true, true, true, true, true, true, true, false, false, true, true, false, false, false, false] rfl rfl (any_of HT_.out (by kernel_rfl)) (fun _ _ _ h => h) (Or.inl ⟨by rfl, ?_⟩) ?_ ?_
        rotate_left
        ·intro w'
         go_simp
         with_reducible rfl
        rotate_left
        ·simp only [Act.put, List.setIfInBounds_toArray, List.set_cons_zero, List.set_cons_succ, i64_w, i32_w]
         rfl
        refine pure_ (i := 16) (N := some 11) (v := ?_) (a' := ?_) #[true, true, true, true, true, true, true, true, true, true, false, false, true, true, false, false, true, false] rfl rfl (any_of HT_.out (by kernel_rfl)) (fun _ _ _ h => h) (Or.inl ⟨by rfl, ?_⟩) ?_ ?_
        rotate_left
        ·intro w'
         go_simp
         with_reducible rfl
        rotate_left
        ·simp only [Act.put, List.setIfInBounds_toArray, List.set_cons_zero, List.set_cons_succ, i64_w, i32_w]
         rfl
        refine take_ (i := 10) (N := some 59) (v := ?_) (a' := ?_) #[true, true, true, true, true, true, true, true, true, true, true, false, true, true, false, false, true, false] rfl rfl (take_ofW HT_.out HW_.out (by kernel_rfl)) (fun _ _ _ h => h) (Or.inl ⟨by rfl, ?_⟩) hHeld ?_ ?_
        rotate_left
        ·rintro w' ⟨s0, s1, s2, s3, s4⟩
         go_simp
         with_reducible rfl
        rotate_left
        ·simp only [Act.put, List.setIfInBounds_toArray, List.set_cons_zero, List.set_cons_succ, i64_w, i32_w]
         rfl
        refine pure_ (i := 11) (N := some 60) (v := ?_) (a' := ?_) #[true, true, true, true, true, true, true, true, true, true, true, true, true, true, false, false, true, false] rfl rfl (any_of HT_.out (by kernel_rfl)) (fun _ _ _ h => h) (Or.inl ⟨by rfl, ?_⟩) ?_ ?_
        rotate_left
        ·intro w'
         go_simp
         with_reducible rfl
        rotate_left
        ·simp only [Act.put, List.setIfInBounds_toArray, List.set_cons_zero, List.set_cons_succ, i64_w, i32_w]
         rfl
        refine take_ (i := 14) (N := some 63) (v := ?_) (a' := ?_) #[true, true, true, true, true, true, true, true, true, true, true, true, true, true, true, false, true, false] rfl rfl (take_ofW HT_.out HW_.out (by kernel_rfl)) (fun _ _ _ h => h) (Or.inl ⟨by rfl, ?_⟩) hHeld ?_ ?_
        rotate_left
        ·rintro w' ⟨s0, s1, s2, s3, s4⟩
         go_simp
         with_reducible rfl
        rotate_left
        ·simp only [Act.put, List.setIfInBounds_toArray, List.set_cons_zero, List.set_cons_succ, i64_w, i32_w]
         rfl
        refine pure_ (i := 15) (N := some 64) (v := ?_) (a' := ?_) #[true, true, true, true, true, true, true, true, true, true, true, true, true, true, true, true, true, false] rfl rfl (any_of HT_.out (by kernel_rfl)) (fun _ _ _ h => h) (Or.inl ⟨by rfl, ?_⟩) ?_ ?_
        rotate_left
        ·intro w'
         go_simp
         with_reducible rfl
        rotate_left
        ·simp only [Act.put, List.setIfInBounds_toArray, List.set_cons_zero, List.set_cons_succ, i64_w, i32_w]
         rfl
        refine pure_ (i := 17) (N := some 12) (v := ?_) (a' := ?_) #[true, true, true, true, true, true, true, true, true, true, true, true, true, true, true, true, true, true] rfl rfl (any_of HT_.out (by kernel_rfl)) (fun _ _ _ h => h) (Or.inl ⟨by rfl, ?_⟩) ?_ ?_
        rotate_left
        ·intro w'
         go_simp
         with_reducible rfl
        rotate_left
        ·simp only [Act.put, List.setIfInBounds_toArray, List.set_cons_zero, List.set_cons_succ, i64_w, i32_w]
         rfl
        refine done_ (done_of HT_.out (by kernel_rfl)) ?_
        have hnb82 := NB256_257.out
        have hnc82 := NB257_256.out
        have hnb83 := NB256_266.out
        have hnc83 := NB266_256.out
        have hcz84_0 : w81.cell? ⟨gb256, 0, none⟩ = some (.int .i64 a0_0) := (blk_cell BK256.out 0).trans rfl
        have hcz84_1 : w81.cell? ⟨gb256, 1, none⟩ = some (.int .i64 a0_1) := (blk_cell BK256.out 1).trans rfl
        have hcz84_2 : w81.cell? ⟨gb256, 2, none⟩ = some (.slice A0_2 l0_2.length c0_2) := (blk_cell BK256.out 2).trans rfl
        have hfz84_0 := blk_frozen BK256.out 0
        have hfz84_1 := blk_frozen BK256.out 1
        have hfz84_2 := blk_frozen BK256.out 2
        try go_wp2
        (try simp only [← hl43_3])
        go_roundg k3
        case measure => have := HJ2.out; have := HK2.out; have := HK3.out; omega
        case rel => exact ⟨(x43_3), (wrap64 (x45_3 + 1)), (x267006_3), (u267006), zh22, H', ⟨zh25⟩, ⟨zh18⟩, ⟨zh21⟩, ⟨zh17⟩, ⟨zh20⟩, ⟨zh15⟩, ⟨zh14⟩, ⟨zh13⟩, ⟨zh10⟩, ⟨zh1⟩⟩
       rw [if_pos c52] at H
       have c52b0 : decide (0 ≤ (wrap64 ((wrap64 (Int.tdiv (rd t260 x38_2) a0_0)) + (rd (rd_L1 x43_3 x45_3) 1)))) = true := decide_eq_true c52
       clear c52
       by_cases c53 : (wrap64 ((wrap64 (Int.tdiv (rd t260 x38_2) a0_0)) + (rd (rd_L1 x43_3 x45_3) 1))) < a0_1
       rotate_left
       ·rw [if_neg c53] at H
        have c53b0 : decide ((wrap64 ((wrap64 (Int.tdiv (rd t260 x38_2) a0_0)) + (rd (rd_L1 x43_3 x45_3) 1))) < a0_1) = false := decide_eq_false c53
        clear c53
        have H' := Aside0.mk H
        clear H
        have p271 : 0 ≤ (x45_3 : Int) := of_decide_eq_true zh5
        have q271 : x45_3 < (x43_3.length : Int) := of_decide_eq_true zh5
        obtain ⟨ad271, A271_0, c271_0, e271, hx271_0, hl271_0, hi271_0⟩ := at_L1 (Kd.S_reads' HO_43.out).2.2 x45_3 p271 q271
        cases e271
        obtain ⟨ce271, hce271, hMe271, hcc271⟩ := Kd.S_get HO_43.out [] x45_3 p271 zh30
        obtain ⟨ve271_0, rfl, ge271_0⟩ := hMe271
        have hv271_0 := hcc271 0 _ rfl
        rw [Nat.add_zero, show ((Kd.slice 3 (Kd.int .i64))).sz = 1 from rfl, Nat.mul_one] at hv271_0
        replace hv271_0 := Option.some.inj (hv271_0.symm.trans hx271_0)
        rw [hv271_0] at ge271_0
        have HL271_0 := Aside0.mk (show Kd.R (Kd.int .i64) 3 _ _ _ _ (rd_L1 x43_3 x45_3) from ge271_0)
        clear hv271_0 ge271_0
        have HX271_0 := Aside0.mk hx271_0
        clear hcc271 hce271
        have HR271_0 := Aside0.mk hi271_0
        have HC271_0 := Aside0.mk hl271_0
        clear hi271_0 hl271_0
        replace p271 := eq_true p271
        replace q271 := eq_true q271
        try go_wp2
        have n0_ := Aside0.mk (Kd.R_drew HO_36.out)
        have n1_ := Aside0.mk (Kd.S_drew HO_43.out)
        have n2_ := Aside0.mk (Kd.R_drew HO_267005.out)
        have n3_ := Aside0.mk (Kd.S_drew HO_267006.out)
        have n4_ := Aside0.mk (Kd.R_drew HL271_0.out)
        have n5_ := Aside0.mk (blk_drew BK256.out)
        have n6_ := Aside0.mk (blk_drew BK257.out)
        have n7_ := Aside0.mk (blk_drew BK266.out)
        have n8_ := Aside0.mk (Kd.C_drew HR271_0.out)
        have n9_ := Aside0.mk (below_drew1 HB.out)
        have n10_ := Aside0.mk (show nb284_ ≤ (wr.drew).heap.size from zh10)
        clear HO_36
        clear HO_43
        clear HO_267005
        clear HO_267006
        clear HL271_0
        clear BK256
        clear BK257
        clear BK266
        clear HR271_0
        clear HB
        clear HNB284
        have HO_36 := n0_
        have HO_43 := n1_
        have HO_267005 := n2_
        have HO_267006 := n3_
        have HL271_0 := n4_
        have BK256 := n5_
        have BK257 := n6_
        have BK266 := n7_
        have HR271_0 := n8_
        have HB := n9_
        have HNB284 := n10_
        clear n0_ n1_ n2_ n3_ n4_ n5_ n6_ n7_ n8_ n9_ n10_
        have p272 : 0 ≤ (0 : Int) := (by omega)
        have q272 : 0 < ((rd_L1 x43_3 x45_3).length : Int) := of_decide_eq_true zh5
        obtain ⟨ad272, e272, hx272_0⟩ := Kd.at_int zh4 0 p272 q272
        cases e272
        have qi272 : (0 < (rd_L1 x43_3 x45_3).length) = True := eq_true (by omega)
        (try rw [show ((0 : Int)).toNat = 0 from rfl] at hx272_0)
        (try rw [Addr.add_zero'] at hx272_0)
        replace p272 := eq_true p272
        replace q272 := eq_true q272
        have p273 : 0 ≤ (1 : Int) := (by omega)
        have q273 : 1 < ((rd_L1 x43_3 x45_3).length : Int) := of_decide_eq_true zh5
        obtain ⟨ad273, e273, hx273_0⟩ := Kd.at_int zh4 1 p273 q273
        obtain rfl : ad272 = ad273 := (by injection e273)
        (try simp only [show (1 : Int).toNat = 1 from rfl, Nat.reduceMul, Nat.reduceEqDiff, Go.Addr.add, ↓reduceIte] at hx273_0)
        have qi273 : (1 < (rd_L1 x43_3 x45_3).length) = True := eq_true (by omega)
        (try rw [show ((1 : Int)).toNat = 1 from rfl] at hx273_0)
        replace p273 := eq_true p273
        replace q273 := eq_true q273
        refine start_ (n := 18) (S := fun w' => w'.cell? ⟨gb256, 0, none⟩ = some (.int .i64 a0_0) ∧ w'.cell? ⟨gb256, 1, none⟩ = some (.int .i64 a0_1) ∧ w'.cell? ⟨gb256, 2, none⟩ = some (.slice A0_2 l0_2.length c0_2) ∧ w'.cell? ad272 = some (.int .i64 (rd (rd_L1 x43_3 x45_3) 0)) ∧ w'.cell? ⟨ad272.block, ad272.off + 1, none⟩ = some (.int .i64 (rd (rd_L1 x43_3 x45_3) 1))) (ds := []) #[false, false, false, false, false, false, false, false, false, false, false, false, false, false, false, false, false, false] (by kernel_rfl) rfl rfl ⟨(blk_cell BK256.out 0).trans rfl, (blk_cell BK256.out 1).trans rfl, (blk_cell BK256.out 2).trans rfl, hx272_0, hx273_0⟩ (fun hHeld => ?_); refine with_tabW impl_graphOf.tab10 impl_graphOf.bits10 (fun HT_ HW_ => ?_)
        generalize wr.drew = w77 at HO_36 HO_43 HO_267005 HO_267006 HL271_0 BK256 BK257 BK266 HR271_0 HNB284 HB hx272_0 hx273_0 hHeld ⊢
        refine pure_ (i := 0) (N := some 49) (v := ?_) (a' := ?_) #[true, false, false, false, false, false, false, false, false, false, false, false, false, false, false, false, false, false] rfl rfl (any_of HT_.out (by kernel_rfl)) (fun _ _ _ h => h) (Or.inl ⟨by rfl, ?_⟩) ?_ ?_
        rotate_left
        ·intro w'
         go_simp
         with_reducible rfl
        rotate_left
        ·simp only [Act.put, List.setIfInBounds_toArray, List.set_cons_zero, List.set_cons_succ, i64_w, i32_w]
         rfl
        refine pure_ (i := 1) (N := some 50) (v := ?_) (a' := ?_) #[true, true, false, false, false, false, false, false, false, false, false, false, false, false, false, false, false, false] rfl rfl (any_of HT_.out (by kernel_rfl)) (fun _ _ _ h => h) (Or.inl ⟨by rfl, ?_⟩) ?_ ?_
        rotate_left
        ·intro w'
         go_simp
         with_reducible rfl
        rotate_left
        ·simp only [Act.put, List.setIfInBounds_toArray, List.set_cons_zero, List.set_cons_succ, i64_w, i32_w]
         rfl
        refine pure_ (i := 4) (N := some 53) (v := ?_) (a' := ?_) #[true, true, false, false, true, false, false, false, false, false, false, false, false, false, false, false, false, false] rfl rfl (any_of HT_.out (by kernel_rfl)) (fun _ _ _ h => h) (Or.inl ⟨by rfl, ?_⟩) ?_ ?_
        rotate_left
        ·intro w'
         go_simp
         with_reducible rfl
        rotate_left
        ·simp only [Act.put, List.setIfInBounds_toArray, List.set_cons_zero, List.set_cons_succ, i64_w, i32_w]
         rfl
        refine pure_ (i := 5) (N := some 54) (v := ?_) (a' := ?_) #[true, true, false, false, true, true, false, false, false, false, false, false, false, false, false, false, false, false] rfl rfl (any_of HT_.out (by kernel_rfl)) (fun _ _ _ h => h) (Or.inl ⟨by rfl, ?_⟩) ?_ ?_
        rotate_left
        ·intro w'
         go_simp
         with_reducible rfl
        rotate_left
        ·simp only [Act.put, List.setIfInBounds_toArray, List.set_cons_zero, List.set_cons_succ, i64_w, i32_w]
         rfl
        refine pure_ (i := 8) (N := some 57) (v := ?_) (a' := ?_) #[true, true, false, false, true, true, false, false, true, false, false, false, false, false, false, false, false, false] rfl rfl (any_of HT_.out (by kernel_rfl)) (fun _ _ _ h => h) (Or.inl ⟨by rfl, ?_⟩) ?_ ?_
        rotate_left
        ·intro w'
         go_simp
         with_reducible rfl
        rotate_left
        ·simp only [Act.put, List.setIfInBounds_toArray, List.set_cons_zero, List.set_cons_succ, i64_w, i32_w]
         rfl
        refine pure_ (i := 9) (N := some 58) (v := ?_) (a' := ?_) #[true, true, false, false, true, true, false, false, true, true, false, false, false, false, false, false, false, false] rfl rfl (any_of HT_.out (by kernel_rfl)) (fun _ _ _ h => h) (Or.inl ⟨by rfl, ?_⟩) ?_ ?_
        rotate_left
        ·intro w'
         go_simp
         with_reducible rfl
        rotate_left
        ·simp only [Act.put, List.setIfInBounds_toArray, List.set_cons_zero, List.set_cons_succ, i64_w, i32_w]
         rfl
        refine pure_ (i := 12) (N := some 61) (v := ?_) (a' := ?_) #[true, true, false, false, true, true, false, false, true, true, false, false, true, false, false, false, false, false] rfl rfl (any_of HT_.out (by kernel_rfl)) (fun _ _ _ h => h) (Or.inl ⟨by rfl, ?_⟩) ?_ ?_
        rotate_left
        ·intro w'
         go_simp
         with_reducible rfl
        rotate_left
        ·simp only [Act.put, List.setIfInBounds_toArray, List.set_cons_zero, List.set_cons_succ, i64_w, i32_w]
         rfl
        refine pure_ (i := 13) (N := some 62) (v := ?_) (a' := ?_) #[true, true, false, false, true, true, false, false, true, true, false, false, true, true, false, false, false, false] rfl rfl (any_of HT_.out (by kernel_rfl)) (fun _ _ _ h => h) (Or.inl ⟨by rfl, ?_⟩) ?_ ?_
        rotate_left
        ·intro w'
         go_simp
         with_reducible rfl
        rotate_left
        ·simp only [Act.put, List.setIfInBounds_toArray, List.set_cons_zero, List.set_cons_succ, i64_w, i32_w]
         rfl
        refine take_ (i := 2) (N := some 51) (v := ?_) (a' := ?_) #[true, true, true, false, true, true, false, false, true, true, false, false, true, true, false, false, false, false] rfl rfl (take_ofW HT_.out HW_.out (by kernel_rfl)) (fun _ _ _ h => h) (Or.inl ⟨by rfl, ?_⟩) hHeld ?_ ?_
        rotate_left
        ·rintro w' ⟨s0, s1, s2, s3, s4⟩
         go_simp
         with_reducible rfl
        rotate_left
        ·simp only [Act.put, List.setIfInBounds_toArray, List.set_cons_zero, List.set_cons_succ, i64_w, i32_w]
         rfl
        refine pure_ (i := 3) (N := some 52) (v := ?_) (a' := ?_) #[true, true, true, true, true, true, false, false, true, true, false, false, true, true, false, false, false, false] rfl rfl (any_of HT_.out (by kernel_rfl)) (fun _ _ _ h => h) (Or.inl ⟨by rfl, ?_⟩) ?_ ?_
        rotate_left
        ·intro w'
         go_simp
         with_reducible rfl
        rotate_left
        ·simp only [Act.put, List.setIfInBounds_toArray, List.set_cons_zero, List.set_cons_succ, i64_w, i32_w]
         rfl
        refine take_ (i := 6) (N := some 55) (v := ?_) (a' := ?_) #[true, true, true, true, true, true, true, false, true, true, false, false, true, true, false, false, false, false] rfl rfl (take_ofW HT_.out HW_.out (by kernel_rfl)) (fun _ _ _ h => h) (Or.inl ⟨by rfl, ?_⟩) hHeld ?_ ?_
        rotate_left
        ·rintro w' ⟨s0, s1, s2, s3, s4⟩
         go_simp
         with_reducible rfl
        rotate_left
        ·simp only [Act.put, List.setIfInBounds_toArray, List.set_cons_zero, List.set_cons_succ, i64_w, i32_w]
         rfl
        refine pure_ (i := 7) (N := some 56) (v := ?_) (a' := ?_) #[true, true, true, true, true, true, true, true, true, true, false, false, true, true, false, false, false, false] rfl rfl (any_of HT_.out (by kernel_rfl)) (fun _ _ _ h => h) (Or.inl ⟨by rfl, ?_⟩) ?_ ?_
        rotate_left
        ·intro w'
         go_simp
         with_reducible rfl
        rotate_left
        ·simp only [Act.put, List.setIfInBounds_toArray, List.set_cons_zero, List.set_cons_succ, i64_w, i32_w]
         rfl
        refine pure_ (i := 16) (N := some 11) (v := ?_) (a' := ?_) #[true, true, true, true, true, true, true, true, true, true, false, false, true, true, false, false, true, false] rfl rfl (any_of HT_.out (by kernel_rfl)) (fun _ _ _ h => h) (Or.inl ⟨by rfl, ?_⟩) ?_ ?_
        rotate_left
        ·intro w'
         go_simp
         with_reducible rfl
        rotate_left
        ·simp only [Act.put, List.setIfInBounds_toArray, List.set_cons_zero, List.set_cons_succ, i64_w, i32_w]
         rfl
        refine take_ (i := 10) (N := some 59) (v := ?_) (a' := ?_) #[true, true, true, true, true, true, true, true, true, true, true, false, true, true, false, false, true, false] rfl rfl (take_ofW HT_.out HW_.out (by kernel_rfl)) (fun _ _ _ h => h) (Or.inl ⟨by rfl, ?_⟩) hHeld ?_ ?_
        rotate_left
        ·rintro w' ⟨s0, s1, s2, s3, s4⟩
         go_simp
         with_reducible rfl
        rotate_left
        ·simp only [Act.put, List.setIfInBounds_toArray, List.set_cons_zero, List.set_cons_succ, i64_w, i32_w]
         rfl
        refine pure_ (i := 11) (N := some 60) (v := ?_) (a' := ?_) #[true, true, true, true, true, true, true, true, true, true, true, true, true, true, false, false, true, false] rfl rfl (any_of HT_.out (by kernel_rfl)) (fun _ _ _ h => h) (Or.inl ⟨by rfl, ?_⟩) ?_ ?_
        rotate_left
        ·intro w'
         go_simp
         with_reducible rfl
        rotate_left
        ·simp only [Act.put, List.setIfInBounds_toArray, List.set_cons_zero, List.set_cons_succ, i64_w, i32_w]
         rfl
        refine take_ (i := 14) (N := some 63) (v := ?_) (a' := ?_) #[true, true, true, true, true, true, true, true, true, true, true, true, true, true, true, false, true, false] rfl rfl (take_ofW HT_.out HW_.out (by kernel_rfl)) (fun _ _ _ h => h) (Or.inl ⟨by rfl, ?_⟩) hHeld ?_ ?_
        rotate_left
        ·rintro w' ⟨s0, s1, s2, s3, s4⟩
         go_simp
         with_reducible rfl
        rotate_left
        ·simp only [Act.put, List.setIfInBounds_toArray, List.set_cons_zero, List.set_cons_succ, i64_w, i32_w]
         rfl
        refine pure_ (i := 15) (N := some 64) (v := ?_) (a' := ?_) #[true, true, true, true, true, true, true, true, true, true, true, true, true, true, true, true, true, false] rfl rfl (any_of HT_.out (by kernel_rfl)) (fun _ _ _ h => h) (Or.inl ⟨by rfl, ?_⟩) ?_ ?_
        rotate_left
        ·intro w'
         go_simp
         with_reducible rfl
        rotate_left
        ·simp only [Act.put, List.setIfInBounds_toArray, List.set_cons_zero, List.set_cons_succ, i64_w, i32_w]
         rfl
        refine pure_ (i := 17) (N := some 12) (v := ?_) (a' := ?_) #[true, true, true, true, true, true, true, true, true, true, true, true, true, true, true, true, true, true] rfl rfl (any_of HT_.out (by kernel_rfl)) (fun _ _ _ h => h) (Or.inl ⟨by rfl, ?_⟩) ?_ ?_
        rotate_left
        ·intro w'
         go_simp
         with_reducible rfl
        rotate_left
        ·simp only [Act.put, List.setIfInBounds_toArray, List.set_cons_zero, List.set_cons_succ, i64_w, i32_w]
         rfl
        refine done_ (done_of HT_.out (by kernel_rfl)) ?_
        have hnb78 := NB256_257.out
        have hnc78 := NB257_256.out
        have hnb79 := NB256_266.out
        have hnc79 := NB266_256.out
        have hcz80_0 : w77.cell? ⟨gb256, 0, none⟩ = some (.int .i64 a0_0) := (blk_cell BK256.out 0).trans rfl
        have hcz80_1 : w77.cell? ⟨gb256, 1, none⟩ = some (.int .i64 a0_1) := (blk_cell BK256.out 1).trans rfl
        have hcz80_2 : w77.cell? ⟨gb256, 2, none⟩ = some (.slice A0_2 l0_2.length c0_2) := (blk_cell BK256.out 2).trans rfl
        have hfz80_0 := blk_frozen BK256.out 0
        have hfz80_1 := blk_frozen BK256.out 1
        have hfz80_2 := blk_frozen BK256.out 2
        try go_wp2
        (try simp only [← hl43_3])
        go_roundg k3
        case measure => have := HJ2.out; have := HK2.out; have := HK3.out; omega
        case rel => exact ⟨(x43_3), (wrap64 (x45_3 + 1)), (x267006_3), (u267006), zh22, H', ⟨zh25⟩, ⟨zh18⟩, ⟨zh21⟩, ⟨zh17⟩, ⟨zh20⟩, ⟨zh15⟩, ⟨zh14⟩, ⟨zh13⟩, ⟨zh10⟩, ⟨zh1⟩⟩
       rw [if_pos c53] at H
       have c53b0 : decide ((wrap64 ((wrap64 (Int.tdiv (rd t260 x38_2) a0_0)) + (rd (rd_L1 x43_3 x45_3) 1))) < a0_1) = true := decide_eq_true c53
       clear c53
       replace H := Option.bind_eq_some_iff.mp H
       obtain ⟨t274, A540, H⟩ := H
       replace H : (if t274 = true then (if 0 ≤ (rd t260 x38_2) then (if (rd t260 x38_2) < (x267006_3.length : Int) then (if (rd_L1 x267006_3 (rd t260 x38_2)).length < 17592186044416 then (impl_graphOf.l1 k3 (rd t260 x38_2) t260 (t260.length : Int) x38_2 x43_3 (t268.length : Int) (wrap64 (x45_3 + 1)) a0_0 a0_1 l0_2 a1_0 a1_1 a0_0 a0_1 l0_2 a1_0 a1_1 t260 (x267006_3.set ((rd t260 x38_2) : Int).toNat ((rd_L1 x267006_3 (rd t260 x38_2)) ++ [wrap64 ((wrap64 ((wrap64 ((wrap64 (Int.tdiv (rd t260 x38_2) a0_0)) + (rd (rd_L1 x43_3 x45_3) 1))) * a0_0)) + (wrap64 ((Int.tmod (rd t260 x38_2) a0_0) + (rd (rd_L1 x43_3 x45_3) 0))))]))) else (none)) else (none)) else (none)) else (impl_graphOf.l1 k3 (rd t260 x38_2) t260 (t260.length : Int) x38_2 x43_3 (t268.length : Int) (wrap64 (x45_3 + 1)) a0_0 a0_1 l0_2 a1_0 a1_1 a0_0 a0_1 l0_2 a1_0 a1_1 t260 x267006_3)) = some (r1, r2, r3) := H
       have A54 := Aside0.mk A540
       clear A540
       by_cases c55 : t274 = true
       rotate_left
       ·replace c55 := Bool.eq_false_iff.mpr c55
        subst c55
        have H1 : (impl_graphOf.l1 k3 (rd t260 x38_2) t260 (t260.length : Int) x38_2 x43_3 (t268.length : Int) (wrap64 (x45_3 + 1)) a0_0 a0_1 l0_2 a1_0 a1_1 a0_0 a0_1 l0_2 a1_0 a1_1 t260 x267006_3) = some (r1, r2, r3) := by rw [if_neg (show ¬ (false = true) by decide)] at H; exact H
        clear H
        have H := H1
        clear H1
        have H' := Aside0.mk H
        clear H
        have p271 : 0 ≤ (x45_3 : Int) := of_decide_eq_true zh5
        have q271 : x45_3 < (x43_3.length : Int) := of_decide_eq_true zh5
        obtain ⟨ad271, A271_0, c271_0, e271, hx271_0, hl271_0, hi271_0⟩ := at_L1 (Kd.S_reads' HO_43.out).2.2 x45_3 p271 q271
        cases e271
        obtain ⟨ce271, hce271, hMe271, hcc271⟩ := Kd.S_get HO_43.out [] x45_3 p271 zh30
        obtain ⟨ve271_0, rfl, ge271_0⟩ := hMe271
        have hv271_0 := hcc271 0 _ rfl
        rw [Nat.add_zero, show ((Kd.slice 3 (Kd.int .i64))).sz = 1 from rfl, Nat.mul_one] at hv271_0
        replace hv271_0 := Option.some.inj (hv271_0.symm.trans hx271_0)
        rw [hv271_0] at ge271_0
        have HL271_0 := Aside0.mk (show Kd.R (Kd.int .i64) 3 _ _ _ _ (rd_L1 x43_3 x45_3) from ge271_0)
        clear hv271_0 ge271_0
        have HX271_0 := Aside0.mk hx271_0
        clear hcc271 hce271
        have HR271_0 := Aside0.mk hi271_0
        have HC271_0 := Aside0.mk hl271_0
        clear hi271_0 hl271_0
        replace p271 := eq_true p271
        replace q271 := eq_true q271
        try go_wp2
        have n0_ := Aside0.mk (Kd.R_drew HO_36.out)
        have n1_ := Aside0.mk (Kd.S_drew HO_43.out)
        have n2_ := Aside0.mk (Kd.R_drew HO_267005.out)
        have n3_ := Aside0.mk (Kd.S_drew HO_267006.out)
        have n4_ := Aside0.mk (Kd.R_drew HL271_0.out)
        have n5_ := Aside0.mk (blk_drew BK256.out)
        have n6_ := Aside0.mk (blk_drew BK257.out)
        have n7_ := Aside0.mk (blk_drew BK266.out)
        have n8_ := Aside0.mk (Kd.C_drew HR271_0.out)
        have n9_ := Aside0.mk (below_drew1 HB.out)
        have n10_ := Aside0.mk (show nb284_ ≤ (wr.drew).heap.size from zh10)
        clear HO_36
        clear HO_43
        clear HO_267005
        clear HO_267006
        clear HL271_0
        clear BK256
        clear BK257
        clear BK266
        clear HR271_0
        clear HB
        clear HNB284
        have HO_36 := n0_
        have HO_43 := n1_
        have HO_267005 := n2_
        have HO_267006 := n3_
        have HL271_0 := n4_
        have BK256 := n5_
        have BK257 := n6_
        have BK266 := n7_
        have HR271_0 := n8_
        have HB := n9_
        have HNB284 := n10_
        clear n0_ n1_ n2_ n3_ n4_ n5_ n6_ n7_ n8_ n9_ n10_
        have p272 : 0 ≤ (0 : Int) := (by omega)
        have q272 : 0 < ((rd_L1 x43_3 x45_3).length : Int) := of_decide_eq_true zh5
        obtain ⟨ad272, e272, hx272_0⟩ := Kd.at_int zh4 0 p272 q272
        cases e272
        have qi272 : (0 < (rd_L1 x43_3 x45_3).length) = True := eq_true (by omega)
        (try rw [show ((0 : Int)).toNat = 0 from rfl] at hx272_0)
        (try rw [Addr.add_zero'] at hx272_0)
        replace p272 := eq_true p272
        replace q272 := eq_true q272
        have p273 : 0 ≤ (1 : Int) := (by omega)
        have q273 : 1 < ((rd_L1 x43_3 x45_3).length : Int) := of_decide_eq_true zh5
        obtain ⟨ad273, e273, hx273_0⟩ := Kd.at_int zh4 1 p273 q273
        obtain rfl : ad272 = ad273 := (by injection e273)
        (try simp only [show (1 : Int).toNat = 1 from rfl, Nat.reduceMul, Nat.reduceEqDiff, Go.Addr.add, ↓reduceIte] at hx273_0)
        have qi273 : (1 < (rd_L1 x43_3 x45_3).length) = True := eq_true (by omega)
        (try rw [show ((1 : Int)).toNat = 1 from rfl] at hx273_0)
        replace p273 := eq_true p273
        replace q273 := eq_true q273
        refine start_ (n := 18) (S := fun w' => w'.cell? ⟨gb256, 0, none⟩ = some (.int .i64 a0_0) ∧ w'.cell? ⟨gb256, 1, none⟩ = some (.int .i64 a0_1) ∧ w'.cell? ⟨gb256, 2, none⟩ = some (.slice A0_2 l0_2.length c0_2) ∧ w'.cell? ad272 = some (.int .i64 (rd (rd_L1 x43_3 x45_3) 0)) ∧ w'.cell? ⟨ad272.block, ad272.off + 1, none⟩ = some (.int .i64 (rd (rd_L1 x43_3 x45_3) 1))) (ds := []) #[false, false, false, false, false, false, false, false, false, false, false, false, false, false, false, false, false, false] (by kernel_rfl) rfl rfl ⟨(blk_cell BK256.out 0).trans rfl, (blk_cell BK256.out 1).trans rfl, (blk_cell BK256.out 2).trans rfl, hx272_0, hx273_0⟩ (fun hHeld => ?_); refine with_tabW impl_graphOf.tab10 impl_graphOf.bits10 (fun HT_ HW_ => ?_)
        generalize wr.drew = w72 at HO_36 HO_43 HO_267005 HO_267006 HL271_0 BK256 BK257 BK266 HR271_0 HNB284 HB hx272_0 hx273_0 hHeld ⊢
        refine pure_ (i := 0) (N := some 49) (v := ?_) (a' := ?_) #[true, false, false, false, false, false, false, false, false, false, false, false, false, false, false, false, false, false] rfl rfl (any_of HT_.out (by kernel_rfl)) (fun _ _ _ h => h) (Or.inl ⟨by rfl, ?_⟩) ?_ ?_
        rotate_left
        ·intro w'
         go_simp
         with_reducible rfl
        rotate_left
        ·simp only [Act.put, List.setIfInBounds_toArray, List.set_cons_zero, List.set_cons_succ, i64_w, i32_w]
         rfl
        refine pure_ (i := 1) (N := some 50) (v := ?_) (a' := ?_) #[true, true, false, false, false, false, false, false, false, false, false, false, false, false, false, false, false, false] rfl rfl (any_of HT_.out (by kernel_rfl)) (fun _ _ _ h => h) (Or.inl ⟨by rfl, ?_⟩) ?_ ?_
        rotate_left
        ·intro w'
         go_simp
         with_reducible rfl
        rotate_left
        ·simp only [Act.put, List.setIfInBounds_toArray, List.set_cons_zero, List.set_cons_succ, i64_w, i32_w]
         rfl
        refine pure_ (i := 4) (N := some 53) (v := ?_) (a' := ?_) #[true, true, false, false, true, false, false, false, false, false, false, false, false, false, false, false, false, false] rfl rfl (any_of HT_.out (by kernel_rfl)) (fun _ _ _ h => h) (Or.inl ⟨by rfl, ?_⟩) ?_ ?_
        rotate_left
        ·intro w'
         go_simp
         with_reducible rfl
        rotate_left
        ·simp only [Act.put, List.setIfInBounds_toArray, List.set_cons_zero, List.set_cons_succ, i64_w, i32_w]
         rfl
        refine pure_ (i := 5) (N := some 54) (v := ?_) (a' := ?_) #[true, true, false, false, true, true, false, false, false, false, false, false, false, false, false, false, false, false] rfl rfl (any_of HT_.out (by kernel_rfl)) (fun _ _ _ h => h) (Or.inl ⟨by rfl, ?_⟩) ?_ ?_
        rotate_left
        ·intro w'
         go_simp
         with_reducible rfl
        rotate_left
        ·simp only [Act.put, List.setIfInBounds_toArray, List.set_cons_zero, List.set_cons_succ, i64_w, i32_w]
         rfl
        refine pure_ (i := 8) (N := some 57) (v := ?_) (a' := ?_) #[true, true, false, false, true, true, false, false, true, false, false, false, false, false, false, false, false, false] rfl rfl (any_of HT_.out (by kernel_rfl)) (fun _ _ _ h => h) (Or.inl ⟨by rfl, ?_⟩) ?_ ?_
        rotate_left
        ·intro w'
         go_simp
         with_reducible rfl
        rotate_left
        ·simp only [Act.put, List.setIfInBounds_toArray, List.set_cons_zero, List.set_cons_succ, i64_w, i32_w]
         rfl
        refine pure_ (i := 9) (N := some 58) (v := ?_) (a' := ?_) #[true, true, false, false, true, true, false, false, true, true, false, false, false, false, false, false, false, false] rfl rfl (any_of HT_.out (by kernel_rfl)) (fun _ _ _ h => h) (Or.inl ⟨by rfl, ?_⟩) ?_ ?_
        rotate_left
        ·intro w'
         go_simp
         with_reducible rfl
        rotate_left
        ·simp only [Act.put, List.setIfInBounds_toArray, List.set_cons_zero, List.set_cons_succ, i64_w, i32_w]
         rfl
        refine pure_ (i := 12) (N := some 61) (v := ?_) (a' := ?_) #[true, true, false, false, true, true, false, false, true, true, false, false, true, false, false, false, false, false] rfl rfl (any_of HT_.out (by kernel_rfl)) (fun _ _ _ h => h) (Or.inl ⟨by rfl, ?_⟩) ?_ ?_
        rotate_left
        ·intro w'
         go_simp
         with_reducible rfl
        rotate_left
        ·simp only [Act.put, List.setIfInBounds_toArray, List.set_cons_zero, List.set_cons_succ, i64_w, i32_w]
         rfl
        refine pure_ (i := 13) (N := some 62) (v := ?_) (a' := ?_) #[true, true, false, false, true, true, false, false, true, true, false, false, true, true, false, false, false, false] rfl rfl (any_of HT_.out (by kernel_rfl)) (fun _ _ _ h => h) (Or.inl ⟨by rfl, ?_⟩) ?_ ?_
        rotate_left
        ·intro w'
         go_simp
         with_reducible rfl
        rotate_left
        ·simp only [Act.put, List.setIfInBounds_toArray, List.set_cons_zero, List.set_cons_succ, i64_w, i32_w]
         rfl
        refine take_ (i := 2) (N := some 51) (v := ?_) (a' := ?_) #[true, true, true, false, true, true, false, false, true, true, false, false, true, true, false, false, false, false] rfl rfl (take_ofW HT_.out HW_.out (by kernel_rfl)) (fun _ _ _ h => h) (Or.inl ⟨by rfl, ?_⟩) hHeld ?_ ?_
        rotate_left
        ·rintro w' ⟨s0, s1, s2, s3, s4⟩
         go_simp
         with_reducible rfl
        rotate_left
        ·simp only [Act.put, List.setIfInBounds_toArray, List.set_cons_zero, List.set_cons_succ, i64_w, i32_w]
         rfl
        refine pure_ (i := 3) (N := some 52) (v := ?_) (a' := ?_) #[true, true, true, true, true, true, false, false, true, true, false, false, true, true, false, false, false, false] rfl rfl (any_of HT_.out (by kernel_rfl)) (fun _ _ _ h => h) (Or.inl ⟨by rfl, ?_⟩) ?_ ?_
        rotate_left
        ·intro w'
         go_simp
         with_reducible rfl
        rotate_left
        ·simp only [Act.put, List.setIfInBounds_toArray, List.set_cons_zero, List.set_cons_succ, i64_w, i32_w]
         rfl
        refine take_ (i := 6) (N := some 55) (v := ?_) (a' := ?_) #[true, true, true, true, true, true, true, false, true, true, false, false, true, true, false, false, false, false] rfl rfl (take_ofW HT_.out HW_.out (by kernel_rfl)) (fun _ _ _ h => h) (Or.inl ⟨by rfl, ?_⟩) hHeld ?_ ?_
        rotate_left
        ·rintro w' ⟨s0, s1, s2, s3, s4⟩
         go_simp
         with_reducible rfl
        rotate_left
        ·simp only [Act.put, List.setIfInBounds_toArray, List.set_cons_zero, List.set_cons_succ, i64_w, i32_w]
         rfl
        refine pure_ (i := 7) (N := some 56) (v := ?_) (a' := ?_) #[true, true, true, true, true, true, true, true, true, true, false, false, true, true, false, false, false, false] rfl rfl (any_of HT_.out (by kernel_rfl)) (fun _ _ _ h => h) (Or.inl ⟨by rfl, ?_⟩) ?_ ?_
        rotate_left
        ·intro w'
         go_simp
         with_reducible rfl
        rotate_left
        ·simp only [Act.put, List.setIfInBounds_toArray, List.set_cons_zero, List.set_cons_succ, i64_w, i32_w]
         rfl
        refine pure_ (i := 16) (N := some 11) (v := ?_) (a' := ?_) #[true, true, true, true, true, true, true, true, true, true, false, false, true, true, false, false, true, false] rfl rfl (any_of HT_.out (by kernel_rfl)) (fun _ _ _ h => h) (Or.inl ⟨by rfl, ?_⟩) ?_ ?_
        rotate_left
        ·intro w'
         go_simp
         with_reducible rfl
        rotate_left
        ·simp only [Act.put, List.setIfInBounds_toArray, List.set_cons_zero, List.set_cons_succ, i64_w, i32_w]
         rfl
        refine take_ (i := 10) (N := some 59) (v := ?_) (a' := ?_) #[true, true, true, true, true, true, true, true, true, true, true, false, true, true, false, false, true, false] rfl rfl (take_ofW HT_.out HW_.out (by kernel_rfl)) (fun _ _ _ h => h) (Or.inl ⟨by rfl, ?_⟩) hHeld ?_ ?_
        rotate_left
        ·rintro w' ⟨s0, s1, s2, s3, s4⟩
         go_simp
         with_reducible rfl
        rotate_left
        ·simp only [Act.put, List.setIfInBounds_toArray, List.set_cons_zero, List.set_cons_succ, i64_w, i32_w]
         rfl
        refine pure_ (i := 11) (N := some 60) (v := ?_) (a' := ?_) #[true, true, true, true, true, true, true, true, true, true, true, true, true, true, false, false, true, false] rfl rfl (any_of HT_.out (by kernel_rfl)) (fun _ _ _ h => h) (Or.inl ⟨by rfl, ?_⟩) ?_ ?_
        rotate_left
        ·intro w'
         go_simp
         with_reducible rfl
        rotate_left
        ·simp only [Act.put, List.setIfInBounds_toArray, List.set_cons_zero, List.set_cons_succ, i64_w, i32_w]
         rfl
        refine take_ (i := 14) (N := some 63) (v := ?_) (a' := ?_) #[true, true, true, true, true, true, true, true, true, true, true, true, true, true, true, false, true, false] rfl rfl (take_ofW HT_.out HW_.out (by kernel_rfl)) (fun _ _ _ h => h) (Or.inl ⟨by rfl, ?_⟩) hHeld ?_ ?_
        rotate_left
        ·rintro w' ⟨s0, s1, s2, s3, s4⟩
         go_simp
         with_reducible rfl
        rotate_left
        ·simp only [Act.put, List.setIfInBounds_toArray, List.set_cons_zero, List.set_cons_succ, i64_w, i32_w]
         rfl
        refine pure_ (i := 15) (N := some 64) (v := ?_) (a' := ?_) #[true, true, true, true, true, true, true, true, true, true, true, true, true, true, true, true, true, false] rfl rfl (any_of HT_.out (by kernel_rfl)) (fun _ _ _ h => h) (Or.inl ⟨by rfl, ?_⟩) ?_ ?_
        rotate_left
        ·intro w'
         go_simp
         with_reducible rfl
        rotate_left
        ·simp only [Act.put, List.setIfInBounds_toArray, List.set_cons_zero, List.set_cons_succ, i64_w, i32_w]
         rfl
        refine pure_ (i := 17) (N := some 12) (v := ?_) (a' := ?_) #[true, true, true, true, true, true, true, true, true, true, true, true, true, true, true, true, true, true] rfl rfl (any_of HT_.out (by kernel_rfl)) (fun _ _ _ h => h) (Or.inl ⟨by rfl, ?_⟩) ?_ ?_
        rotate_left
        ·intro w'
         go_simp
         with_reducible rfl
        rotate_left
        ·simp only [Act.put, List.setIfInBounds_toArray, List.set_cons_zero, List.set_cons_succ, i64_w, i32_w]
         rfl
        refine done_ (done_of HT_.out (by kernel_rfl)) ?_
        have hnb73 := NB256_257.out
        have hnc73 := NB257_256.out
        have hnb74 := NB256_266.out
        have hnc74 := NB266_256.out
        have hcz75_0 : w72.cell? ⟨gb256, 0, none⟩ = some (.int .i64 a0_0) := (blk_cell BK256.out 0).trans rfl
        have hcz75_1 : w72.cell? ⟨gb256, 1, none⟩ = some (.int .i64 a0_1) := (blk_cell BK256.out 1).trans rfl
        have hcz75_2 : w72.cell? ⟨gb256, 2, none⟩ = some (.slice A0_2 l0_2.length c0_2) := (blk_cell BK256.out 2).trans rfl
        have hfz75_0 := blk_frozen BK256.out 0
        have hfz75_1 := blk_frozen BK256.out 1
        have hfz75_2 := blk_frozen BK256.out 2
        try go_wp2_with (first | (go_at_call 59; (with_reducible refine (impl_Board_has.calls k3 a0_0 a0_1 _ _ l0_2 (wrap64 ((wrap64 ((wrap64 ((wrap64 (Int.tdiv (rd t260 x38_2) a0_0)) + (rd (rd_L1 x43_3 x45_3) 1))) * a0_0)) + (wrap64 ((Int.tmod (rd t260 x38_2) a0_0) + (rd (rd_L1 x43_3 x45_3) 0))))) false _ ?side1 ?side2 A54.out).mono ?_); (case side1 => exact zh9); (case side2 => exact HC0_2.out); rintro e w76 ⟨rfl, hb⟩; have n0_ := Aside0.mk (Kd.R_below zh12 hb); have n1_ := Aside0.mk (Kd.S_below zh23 hb); have n2_ := Aside0.mk (Kd.R_below zh8 hb); have n3_ := Aside0.mk (Kd.S_below zh26 hb); have n4_ := Aside0.mk (Kd.R_below (by first | exact HL271_0.out | ((with_reducible repeat (first | apply Kd.R_alloc | apply Kd.R_drewN | apply Kd.R_drew)); exact HL271_0.out)) hb); have n5_ := Aside0.mk (blk_below (g := gb256) (o := .cells #[.int .i64 a0_0, .int .i64 a0_1, .slice A0_2 l0_2.length c0_2] 31 (0, 0)) zh3 hb); have n6_ := Aside0.mk (blk_below (g := gb257) (o := .cells #[.int .i64 a1_0, .int .i64 a1_1] 33 (0, 0)) zh6 hb); have n7_ := Aside0.mk (blk_below (g := gb266) (o := .cells #[.int .i64 a0_0, .int .i64 a0_1, .slice A0_2 l0_2.length c0_2, .int .i64 a1_0, .int .i64 a1_1, .slice (some ad267) t260.length co30, u267006] 59 (0, 0)) zh11 hb); have n8_ := Aside0.mk (Kd.C_below zh4 hb); have n9_ := Aside0.mk (below_step zh1 hb); have n10_ := Aside0.mk (show nb284_ ≤ w76.heap.size from zh7); clear HO_36; clear HO_43; clear HO_267005; clear HO_267006; clear HL271_0; clear BK256; clear BK257; clear BK266; clear HR271_0; clear HB; clear HNB284; have HO_36 := n0_; have HO_43 := n1_; have HO_267005 := n2_; have HO_267006 := n3_; have HL271_0 := n4_; have BK256 := n5_; have BK257 := n6_; have BK266 := n7_; have HR271_0 := n8_; have HB := n9_; have HNB284 := n10_; clear n0_ n1_ n2_ n3_ n4_ n5_ n6_ n7_ n8_ n9_ n10_; (try clear hb); (try clear hb2); (try clear hk); (try clear hi); (try clear hna_); (try clear hnb_)))
        (try simp only [← hl43_3])
        go_roundg k3
        case measure => have := HJ2.out; have := HK2.out; have := HK3.out; omega
        case rel => exact ⟨(x43_3), (wrap64 (x45_3 + 1)), (x267006_3), (u267006), zh22, H', ⟨zh25⟩, ⟨zh18⟩, ⟨zh21⟩, ⟨zh17⟩, ⟨zh20⟩, ⟨zh15⟩, ⟨zh14⟩, ⟨zh13⟩, ⟨zh10⟩, ⟨zh1⟩⟩
       subst c55
       have H1 : (if 0 ≤ (rd t260 x38_2) then (if (rd t260 x38_2) < (x267006_3.length : Int) then (if (rd_L1 x267006_3 (rd t260 x38_2)).length < 17592186044416 then (impl_graphOf.l1 k3 (rd t260 x38_2) t260 (t260.length : Int) x38_2 x43_3 (t268.length : Int) (wrap64 (x45_3 + 1)) a0_0 a0_1 l0_2 a1_0 a1_1 a0_0 a0_1 l0_2 a1_0 a1_1 t260 (x267006_3.set ((rd t260 x38_2) : Int).toNat ((rd_L1 x267006_3 (rd t260 x38_2)) ++ [wrap64 ((wrap64 ((wrap64 ((wrap64 (Int.tdiv (rd t260 x38_2) a0_0)) + (rd (rd_L1 x43_3 x45_3) 1))) * a0_0)) + (wrap64 ((Int.tmod (rd t260 x38_2) a0_0) + (rd (rd_L1 x43_3 x45_3) 0))))]))) else (none)) else (none)) else (none)) = some (r1, r2, r3) := by rw [if_pos rfl] at H; exact H
       clear H
       have H := H1
       clear H1
       by_cases c56 : 0 ≤ (rd t260 x38_2)
       rotate_left
       ·rw [if_neg c56] at H
        exact absurd H (by simp)
       rw [if_pos c56] at H
       have c56b0 : decide (0 ≤ (rd t260 x38_2)) = true := decide_eq_true c56
       clear c56
       by_cases c57 : (rd t260 x38_2) < (x267006_3.length : Int)
       rotate_left
       ·rw [if_neg c57] at H
        exact absurd H (by simp)
       rw [if_pos c57] at H
       have c57b0 : decide ((rd t260 x38_2) < (x267006_3.length : Int)) = true := decide_eq_true c57
       have c57b8 := c57b0
       (try simp only [hl43_3] at c57b8)
       clear c57
       by_cases c58 : (rd_L1 x267006_3 (rd t260 x38_2)).length < 17592186044416
       rotate_left
       ·rw [if_neg c58] at H
        exact absurd H (by simp)
       rw [if_pos c58] at H
       have LMc58 := Aside0.mk c58
       clear c58
       obtain ⟨y276, hy276⟩ : ∃ y_ : List Int, y_ = ((rd_L1 x267006_3 (rd t260 x38_2)) ++ [wrap64 ((wrap64 ((wrap64 ((wrap64 (Int.tdiv (rd t260 x38_2) a0_0)) + (rd (rd_L1 x43_3 x45_3) 1))) * a0_0)) + (wrap64 ((Int.tmod (rd t260 x38_2) a0_0) + (rd (rd_L1 x43_3 x45_3) 0))))]) := ⟨_, rfl⟩
       replace H : (impl_graphOf.l1 k3 (rd t260 x38_2) t260 (t260.length : Int) x38_2 x43_3 (t268.length : Int) (wrap64 (x45_3 + 1)) a0_0 a0_1 l0_2 a1_0 a1_1 a0_0 a0_1 l0_2 a1_0 a1_1 t260 (x267006_3.set ((rd t260 x38_2) : Int).toNat y276)) = some (r1, r2, r3) := by first | (rw [hy276]; with_reducible exact H) | (have H2_ := (Option.bind_some _ _).symm.trans H; rw [hy276]; with_reducible exact H2_) | (have H2_ := (Option.bind_some _ _).symm.trans H; with_reducible exact H2_) | with_reducible exact H | (rw [hy276]; exact H) | exact H
       have Ny276 := Aside0.mk hy276
       clear hy276
       obtain ⟨y279, hy279⟩ : ∃ y_ : List (List Int), y_ = (x267006_3.set ((rd t260 x38_2) : Int).toNat y276) := ⟨_, rfl⟩
       replace H : (impl_graphOf.l1 k3 (rd t260 x38_2) t260 (t260.length : Int) x38_2 x43_3 (t268.length : Int) (wrap64 (x45_3 + 1)) a0_0 a0_1 l0_2 a1_0 a1_1 a0_0 a0_1 l0_2 a1_0 a1_1 t260 y279) = some (r1, r2, r3) := by first | (rw [hy279]; with_reducible exact H) | (have H2_ := (Option.bind_some _ _).symm.trans H; rw [hy279]; with_reducible exact H2_) | (have H2_ := (Option.bind_some _ _).symm.trans H; with_reducible exact H2_) | with_reducible exact H | (rw [hy279]; exact H) | exact H
       have Ny279 := Aside0.mk hy279
       clear hy279
       have H' := Aside0.mk H
       clear H
       have p271 : 0 ≤ (x45_3 : Int) := of_decide_eq_true zh5
       have q271 : x45_3 < (x43_3.length : Int) := of_decide_eq_true zh5
       obtain ⟨ad271, A271_0, c271_0, e271, hx271_0, hl271_0, hi271_0⟩ := at_L1 (Kd.S_reads' HO_43.out).2.2 x45_3 p271 q271
       cases e271
       obtain ⟨ce271, hce271, hMe271, hcc271⟩ := Kd.S_get HO_43.out [] x45_3 p271 zh30
       obtain ⟨ve271_0, rfl, ge271_0⟩ := hMe271
       have hv271_0 := hcc271 0 _ rfl
       rw [Nat.add_zero, show ((Kd.slice 3 (Kd.int .i64))).sz = 1 from rfl, Nat.mul_one] at hv271_0
       replace hv271_0 := Option.some.inj (hv271_0.symm.trans hx271_0)
       rw [hv271_0] at ge271_0
       have HL271_0 := Aside0.mk (show Kd.R (Kd.int .i64) 3 _ _ _ _ (rd_L1 x43_3 x45_3) from ge271_0)
       clear hv271_0 ge271_0
       have HX271_0 := Aside0.mk hx271_0
       clear hcc271 hce271
       have HR271_0 := Aside0.mk hi271_0
       have HC271_0 := Aside0.mk hl271_0
       clear hi271_0 hl271_0
       replace p271 := eq_true p271
       replace q271 := eq_true q271
       try go_wp2
       have n0_ := Aside0.mk (Kd.R_drew HO_36.out)
       have n1_ := Aside0.mk (Kd.S_drew HO_43.out)
       have n2_ := Aside0.mk (Kd.R_drew HO_267005.out)
       have n3_ := Aside0.mk (Kd.S_drew HO_267006.out)
       have n4_ := Aside0.mk (Kd.R_drew HL271_0.out)
       have n5_ := Aside0.mk (blk_drew BK256.out)
       have n6_ := Aside0.mk (blk_drew BK257.out)
       have n7_ := Aside0.mk (blk_drew BK266.out)
       have n8_ := Aside0.mk (Kd.C_drew HR271_0.out)
       have n9_ := Aside0.mk (below_drew1 HB.out)
       have n10_ := Aside0.mk (show nb284_ ≤ (wr.drew).heap.size from zh10)
       clear HO_36
       clear HO_43
       clear HO_267005
       clear HO_267006
       clear HL271_0
       clear BK256
       clear BK257
       clear BK266
       clear HR271_0
       clear HB
       clear HNB284
       have HO_36 := n0_
       have HO_43 := n1_
       have HO_267005 := n2_
       have HO_267006 := n3_
       have HL271_0 := n4_
       have BK256 := n5_
       have BK257 := n6_
       have BK266 := n7_
       have HR271_0 := n8_
       have HB := n9_
       have HNB284 := n10_
       clear n0_ n1_ n2_ n3_ n4_ n5_ n6_ n7_ n8_ n9_ n10_
       have p272 : 0 ≤ (0 : Int) := (by omega)
       have q272 : 0 < ((rd_L1 x43_3 x45_3).length : Int) := of_decide_eq_true zh5
       obtain ⟨ad272, e272, hx272_0⟩ := Kd.at_int zh4 0 p272 q272
       cases e272
       have qi272 : (0 < (rd_L1 x43_3 x45_3).length) = True := eq_true (by omega)
       (try rw [show ((0 : Int)).toNat = 0 from rfl] at hx272_0)
       (try rw [Addr.add_zero'] at hx272_0)
       replace p272 := eq_true p272
       replace q272 := eq_true q272
       have p273 : 0 ≤ (1 : Int) := (by omega)
       have q273 : 1 < ((rd_L1 x43_3 x45_3).length : Int) := of_decide_eq_true zh5
       obtain ⟨ad273, e273, hx273_0⟩ := Kd.at_int zh4 1 p273 q273
       obtain rfl : ad272 = ad273 := (by injection e273)
       (try simp only [show (1 : Int).toNat = 1 from rfl, Nat.reduceMul, Nat.reduceEqDiff, Go.Addr.add, ↓reduceIte] at hx273_0)
       have qi273 : (1 < (rd_L1 x43_3 x45_3).length) = True := eq_true (by omega)
       (try rw [show ((1 : Int)).toNat = 1 from rfl] at hx273_0)
       replace p273 := eq_true p273
       replace q273 := eq_true q273
       refine start_ (n := 18) (S := fun w' => w'.cell? ⟨gb256, 0, none⟩ = some (.int .i64 a0_0) ∧ w'.cell? ⟨gb256, 1, none⟩ = some (.int .i64 a0_1) ∧ w'.cell? ⟨gb256, 2, none⟩ = some (.slice A0_2 l0_2.length c0_2) ∧ w'.cell? ad272 = some (.int .i64 (rd (rd_L1 x43_3 x45_3) 0)) ∧ w'.cell? ⟨ad272.block, ad272.off + 1, none⟩ = some (.int .i64 (rd (rd_L1 x43_3 x45_3) 1))) (ds := []) #[false, false, false, false, false, false, false, false, false, false, false, false, false, false, false, false, false, false] (by kernel_rfl) rfl rfl ⟨(blk_cell BK256.out 0).trans rfl, (blk_cell BK256.out 1).trans rfl, (blk_cell BK256.out 2).trans rfl, hx272_0, hx273_0⟩ (fun hHeld => ?_); refine with_tabW impl_graphOf.tab10 impl_graphOf.bits10 (fun HT_ HW_ => ?_)
       generalize wr.drew = w60 at HO_36 HO_43 HO_267005 HO_267006 HL271_0 BK256 BK257 BK266 HR271_0 HNB284 HB hx272_0 hx273_0 hHeld ⊢
       refine pure_ (i := 0) (N := some 49) (v := ?_) (a' := ?_) #[true, false, false, false, false, false, false, false, false, false, false, false, false, false, false, false, false, false] rfl rfl (any_of HT_.out (by kernel_rfl)) (fun _ _ _ h => h) (Or.inl ⟨by rfl, ?_⟩) ?_ ?_
       rotate_left
       ·intro w'
        go_simp
        with_reducible rfl
       rotate_left
       ·simp only [Act.put, List.setIfInBounds_toArray, List.set_cons_zero, List.set_cons_succ, i64_w, i32_w]
        rfl
       refine pure_ (i := 1) (N := some 50) (v := ?_) (a' := ?_) #[true, true, false, false, false, false, false, false, false, false, false, false, false, false, false, false, false, false] rfl rfl (any_of HT_.out (by kernel_rfl)) (fun _ _ _ h => h) (Or.inl ⟨by rfl, ?_⟩) ?_ ?_
       rotate_left
       ·intro w'
        go_simp
        with_reducible rfl
       rotate_left
       ·simp only [Act.put, List.setIfInBounds_toArray, List.set_cons_zero, List.set_cons_succ, i64_w, i32_w]
        rfl
       refine pure_ (i := 4) (N := some 53) (v := ?_) (a' := ?_) #[true, true, false, false, true, false, false, false, false, false, false, false, false, false, false, false, false, false] rfl rfl (any_of HT_.out (by kernel_rfl)) (fun _ _ _ h => h) (Or.inl ⟨by rfl, ?_⟩) ?_ ?_
       rotate_left
       ·intro w'
        go_simp
        with_reducible rfl
       rotate_left
       ·simp only [Act.put, List.setIfInBounds_toArray, List.set_cons_zero, List.set_cons_succ, i64_w, i32_w]
        rfl
       refine pure_ (i := 5) (N := some 54) (v := ?_) (a' := ?_) #[true, true, false, false, true, true, false, false, false, false, false, false, false, false, false, false, false, false] rfl rfl (any_of HT_.out (by kernel_rfl)) (fun _ _ _ h => h) (Or.inl ⟨by rfl, ?_⟩) ?_ ?_
       rotate_left
       ·intro w'
        go_simp
        with_reducible rfl
       rotate_left
       ·simp only [Act.put, List.setIfInBounds_toArray, List.set_cons_zero, List.set_cons_succ, i64_w, i32_w]
        rfl
       refine pure_ (i := 8) (N := some 57) (v := ?_) (a' := ?_) #[true, true, false, false, true, true, false, false, true, false, false, false, false, false, false, false, false, false] rfl rfl (any_of HT_.out (by kernel_rfl)) (fun _ _ _ h => h) (Or.inl ⟨by rfl, ?_⟩) ?_ ?_
       rotate_left
       ·intro w'
        go_simp
        with_reducible rfl
       rotate_left
       ·simp only [Act.put, List.setIfInBounds_toArray, List.set_cons_zero, List.set_cons_succ, i64_w, i32_w]
        rfl
       refine pure_ (i := 9) (N := some 58) (v := ?_) (a' := ?_) #[true, true, false, false, true, true, false, false, true, true, false, false, false, false, false, false, false, false] rfl rfl (any_of HT_.out (by kernel_rfl)) (fun _ _ _ h => h) (Or.inl ⟨by rfl, ?_⟩) ?_ ?_
       rotate_left
       ·intro w'
        go_simp
        with_reducible rfl
       rotate_left
       ·simp only [Act.put, List.setIfInBounds_toArray, List.set_cons_zero, List.set_cons_succ, i64_w, i32_w]
        rfl
       refine pure_ (i := 12) (N := some 61) (v := ?_) (a' := ?_) #[true, true, false, false, true, true, false, false, true, true, false, false, true, false, false, false, false, false] rfl rfl (any_of HT_.out (by kernel_rfl)) (fun _ _ _ h => h) (Or.inl ⟨by rfl, ?_⟩) ?_ ?_
       rotate_left
       ·intro w'
        go_simp
        with_reducible rfl
       rotate_left
       ·simp only [Act.put, List.setIfInBounds_toArray, List.set_cons_zero, List.set_cons_succ, i64_w, i32_w]
        rfl
       refine pure_ (i := 13) (N := some 62) (v := ?_) (a' := ?_) #[true, true, false, false, true, true, false, false, true, true, false, false, true, true, false, false, false, false] rfl rfl (any_of HT_.out (by kernel_rfl)) (fun _ _ _ h => h) (Or.inl ⟨by rfl, ?_⟩) ?_ ?_
       rotate_left
       ·intro w'
        go_simp
        with_reducible rfl
       rotate_left
       ·simp only [Act.put, List.setIfInBounds_toArray, List.set_cons_zero, List.set_cons_succ, i64_w, i32_w]
        rfl
       refine take_ (i := 2) (N := some 51) (v := ?_) (a' := ?_) #[true, true, true, false, true, true, false, false, true, true, false, false, true, true, false, false, false, false] rfl rfl (take_ofW HT_.out HW_.out (by kernel_rfl)) (fun _ _ _ h => h) (Or.inl ⟨by rfl, ?_⟩) hHeld ?_ ?_
       rotate_left
       ·rintro w' ⟨s0, s1, s2, s3, s4⟩
        go_simp
        with_reducible rfl
       rotate_left
       ·simp only [Act.put, List.setIfInBounds_toArray, List.set_cons_zero, List.set_cons_succ, i64_w, i32_w]
        rfl
       refine pure_ (i := 3) (N := some 52) (v := ?_) (a' := ?_) #[true, true, true, true, true, true, false, false, true, true, false, false, true, true, false, false, false, false] rfl rfl (any_of HT_.out (by kernel_rfl)) (fun _ _ _ h => h) (Or.inl ⟨by rfl, ?_⟩) ?_ ?_
       rotate_left
       ·intro w'
        go_simp
        with_reducible rfl
       rotate_left
       ·simp only [Act.put, List.setIfInBounds_toArray, List.set_cons_zero, List.set_cons_succ, i64_w, i32_w]
        rfl
       refine take_ (i := 6) (N := some 55) (v := ?_) (a' := ?_) #[true, true, true, true, true, true, true, false, true, true, false, false, true, true, false, false, false, false] rfl rfl (take_ofW HT_.out HW_.out (by kernel_rfl)) (fun _ _ _ h => h) (Or.inl ⟨by rfl, ?_⟩) hHeld ?_ ?_
       rotate_left
       ·rintro w' ⟨s0, s1, s2, s3, s4⟩
        go_simp
        with_reducible rfl
       rotate_left
       ·simp only [Act.put, List.setIfInBounds_toArray, List.set_cons_zero, List.set_cons_succ, i64_w, i32_w]
        rfl
       refine pure_ (i := 7) (N := some 56) (v := ?_) (a' := ?_) #[true, true, true, true, true, true, true, true, true, true, false, false, true, true, false, false, false, false] rfl rfl (any_of HT_.out (by kernel_rfl)) (fun _ _ _ h => h) (Or.inl ⟨by rfl, ?_⟩) ?_ ?_
       rotate_left
       ·intro w'
        go_simp
        with_reducible rfl
       rotate_left
       ·simp only [Act.put, List.setIfInBounds_toArray, List.set_cons_zero, List.set_cons_succ, i64_w, i32_w]
        rfl
       refine pure_ (i := 16) (N := some 11) (v := ?_) (a' := ?_) #[true, true, true, true, true, true, true, true, true, true, false, false, true, true, false, false, true, false] rfl rfl (any_of HT_.out (by kernel_rfl)) (fun _ _ _ h => h) (Or.inl ⟨by rfl, ?_⟩) ?_ ?_
       rotate_left
       ·intro w'
        go_simp
        with_reducible rfl
       rotate_left
       ·simp only [Act.put, List.setIfInBounds_toArray, List.set_cons_zero, List.set_cons_succ, i64_w, i32_w]
        rfl
       refine take_ (i := 10) (N := some 59) (v := ?_) (a' := ?_) #[true, true, true, true, true, true, true, true, true, true, true, false, true, true, false, false, true, false] rfl rfl (take_ofW HT_.out HW_.out (by kernel_rfl)) (fun _ _ _ h => h) (Or.inl ⟨by rfl, ?_⟩) hHeld ?_ ?_
       rotate_left
       ·rintro w' ⟨s0, s1, s2, s3, s4⟩
        go_simp
        with_reducible rfl
       rotate_left
       ·simp only [Act.put, List.setIfInBounds_toArray, List.set_cons_zero, List.set_cons_succ, i64_w, i32_w]
        rfl
       refine pure_ (i := 11) (N := some 60) (v := ?_) (a' := ?_) #[true, true, true, true, true, true, true, true, true, true, true, true, true, true, false, false, true, false] rfl rfl (any_of HT_.out (by kernel_rfl)) (fun _ _ _ h => h) (Or.inl ⟨by rfl, ?_⟩) ?_ ?_
       rotate_left
       ·intro w'
        go_simp
        with_reducible rfl
       rotate_left
       ·simp only [Act.put, List.setIfInBounds_toArray, List.set_cons_zero, List.set_cons_succ, i64_w, i32_w]
        rfl
       refine take_ (i := 14) (N := some 63) (v := ?_) (a' := ?_) #[true, true, true, true, true, true, true, true, true, true, true, true, true, true, true, false, true, false] rfl rfl (take_ofW HT_.out HW_.out (by kernel_rfl)) (fun _ _ _ h => h) (Or.inl ⟨by rfl, ?_⟩) hHeld ?_ ?_
       rotate_left
       ·rintro w' ⟨s0, s1, s2, s3, s4⟩
        go_simp
        with_reducible rfl
       rotate_left
       ·simp only [Act.put, List.setIfInBounds_toArray, List.set_cons_zero, List.set_cons_succ, i64_w, i32_w]
        rfl
       refine pure_ (i := 15) (N := some 64) (v := ?_) (a' := ?_) #[true, true, true, true, true, true, true, true, true, true, true, true, true, true, true, true, true, false] rfl rfl (any_of HT_.out (by kernel_rfl)) (fun _ _ _ h => h) (Or.inl ⟨by rfl, ?_⟩) ?_ ?_
       rotate_left
       ·intro w'
        go_simp
        with_reducible rfl
       rotate_left
       ·simp only [Act.put, List.setIfInBounds_toArray, List.set_cons_zero, List.set_cons_succ, i64_w, i32_w]
        rfl
       refine pure_ (i := 17) (N := some 12) (v := ?_) (a' := ?_) #[true, true, true, true, true, true, true, true, true, true, true, true, true, true, true, true, true, true] rfl rfl (any_of HT_.out (by kernel_rfl)) (fun _ _ _ h => h) (Or.inl ⟨by rfl, ?_⟩) ?_ ?_
       rotate_left
       ·intro w'
        go_simp
        with_reducible rfl
       rotate_left
       ·simp only [Act.put, List.setIfInBounds_toArray, List.set_cons_zero, List.set_cons_succ, i64_w, i32_w]
        rfl
       refine done_ (done_of HT_.out (by kernel_rfl)) ?_
       have hnb61 := NB256_257.out
       have hnc61 := NB257_256.out
       have hnb62 := NB256_266.out
       have hnc62 := NB266_256.out
       have hcz63_0 : w60.cell? ⟨gb256, 0, none⟩ = some (.int .i64 a0_0) := (blk_cell BK256.out 0).trans rfl
       have hcz63_1 : w60.cell? ⟨gb256, 1, none⟩ = some (.int .i64 a0_1) := (blk_cell BK256.out 1).trans rfl
       have hcz63_2 : w60.cell? ⟨gb256, 2, none⟩ = some (.slice A0_2 l0_2.length c0_2) := (blk_cell BK256.out 2).trans rfl
       have hfz63_0 := blk_frozen BK256.out 0
       have hfz63_1 := blk_frozen BK256.out 1
       have hfz63_2 := blk_frozen BK256.out 2
       try go_wp2_with (first | (go_at_call 59; (with_reducible refine (impl_Board_has.calls k3 a0_0 a0_1 _ _ l0_2 (wrap64 ((wrap64 ((wrap64 ((wrap64 (Int.tdiv (rd t260 x38_2) a0_0)) + (rd (rd_L1 x43_3 x45_3) 1))) * a0_0)) + (wrap64 ((Int.tmod (rd t260 x38_2) a0_0) + (rd (rd_L1 x43_3 x45_3) 0))))) true _ ?side1 ?side2 A54.out).mono ?_); (case side1 => exact zh9); (case side2 => exact HC0_2.out); rintro e w64 ⟨rfl, hb⟩; have n0_ := Aside0.mk (Kd.R_below zh12 hb); have n1_ := Aside0.mk (Kd.S_below zh23 hb); have n2_ := Aside0.mk (Kd.R_below zh8 hb); have n3_ := Aside0.mk (Kd.S_below zh26 hb); have n4_ := Aside0.mk (Kd.R_below (by first | exact HL271_0.out | ((with_reducible repeat (first | apply Kd.R_alloc | apply Kd.R_drewN | apply Kd.R_drew)); exact HL271_0.out)) hb); have n5_ := Aside0.mk (blk_below (g := gb256) (o := .cells #[.int .i64 a0_0, .int .i64 a0_1, .slice A0_2 l0_2.length c0_2] 31 (0, 0)) zh3 hb); have n6_ := Aside0.mk (blk_below (g := gb257) (o := .cells #[.int .i64 a1_0, .int .i64 a1_1] 33 (0, 0)) zh6 hb); have n7_ := Aside0.mk (blk_below (g := gb266) (o := .cells #[.int .i64 a0_0, .int .i64 a0_1, .slice A0_2 l0_2.length c0_2, .int .i64 a1_0, .int .i64 a1_1, .slice (some ad267) t260.length co30, u267006] 59 (0, 0)) zh11 hb); have n8_ := Aside0.mk (Kd.C_below zh4 hb); have n9_ := Aside0.mk (below_step zh1 hb); have n10_ := Aside0.mk (show nb284_ ≤ w64.heap.size from zh7); clear HO_36; clear HO_43; clear HO_267005; clear HO_267006; clear HL271_0; clear BK256; clear BK257; clear BK266; clear HR271_0; clear HB; clear HNB284; have HO_36 := n0_; have HO_43 := n1_; have HO_267005 := n2_; have HO_267006 := n3_; have HL271_0 := n4_; have BK256 := n5_; have BK257 := n6_; have BK266 := n7_; have HR271_0 := n8_; have HB := n9_; have HNB284 := n10_; clear n0_ n1_ n2_ n3_ n4_ n5_ n6_ n7_ n8_ n9_ n10_; (try clear hb); (try clear hb2); (try clear hk); (try clear hi); (try clear hna_); (try clear hnb_)))
       have n0_ := Aside0.mk (Kd.R_drew HO_36.out)
       have n1_ := Aside0.mk (Kd.S_drew HO_43.out)
       have n2_ := Aside0.mk (Kd.R_drew HO_267005.out)
       have n3_ := Aside0.mk (Kd.S_drew HO_267006.out)
       have n4_ := Aside0.mk (Kd.R_drew HL271_0.out)
       have n5_ := Aside0.mk (blk_drew BK256.out)
       have n6_ := Aside0.mk (blk_drew BK257.out)
       have n7_ := Aside0.mk (blk_drew BK266.out)
       have n8_ := Aside0.mk (Kd.C_drew HR271_0.out)
       have n9_ := Aside0.mk (below_drew1 HB.out)
       have n10_ := Aside0.mk (show nb284_ ≤ (w64.drew).heap.size from zh10)
       clear HO_36
       clear HO_43
       clear HO_267005
       clear HO_267006
       clear HL271_0
       clear BK256
       clear BK257
       clear BK266
       clear HR271_0
       clear HB
       clear HNB284
       have HO_36 := n0_
       have HO_43 := n1_
       have HO_267005 := n2_
       have HO_267006 := n3_
       have HL271_0 := n4_
       have BK256 := n5_
       have BK257 := n6_
       have BK266 := n7_
       have HR271_0 := n8_
       have HB := n9_
       have HNB284 := n10_
       clear n0_ n1_ n2_ n3_ n4_ n5_ n6_ n7_ n8_ n9_ n10_
       obtain ⟨Ao66, co66, eo66⟩ := Kd.S_slice HO_267006.out
       (first | subst eo66 | (injection eo66 with f1_ f2_ f3_; have f4_ := f1_.symm; have f5_ := f3_.symm; clear f1_ f2_ f3_; subst f4_; subst f5_))
       have p275 : 0 ≤ ((rd t260 x38_2) : Int) := of_decide_eq_true zh5
       have q275 : (rd t260 x38_2) < (x267006_3.length : Int) := of_decide_eq_true zh5
       obtain ⟨ad275, A275_0, c275_0, e275, hx275_0, hl275_0, hi275_0⟩ := at_L1 (Kd.S_reads' HO_267006.out).2.2 (rd t260 x38_2) p275 q275
       cases e275
       obtain ⟨ce275, hce275, hMe275, hcc275⟩ := Kd.S_get HO_267006.out [] (rd t260 x38_2) p275 (by first | exact q275 | exact of_decide_eq_true zh5 | (have e_ := (Kd.S_reads' HO_267006.out).1; omega))
       obtain ⟨ve275_0, rfl, ge275_0⟩ := hMe275
       have hv275_0 := hcc275 0 _ rfl
       rw [Nat.add_zero, show ((Kd.slice 3 (Kd.int .i64))).sz = 1 from rfl, Nat.mul_one] at hv275_0
       replace hv275_0 := Option.some.inj (hv275_0.symm.trans hx275_0)
       rw [hv275_0] at ge275_0
       have HL275_0 := Aside0.mk (show Kd.R (Kd.int .i64) 3 _ _ _ _ (rd_L1 x267006_3 (rd t260 x38_2)) from ge275_0)
       clear hv275_0 ge275_0
       have HX275_0 := Aside0.mk hx275_0
       clear hcc275 hce275
       have HR275_0 := Aside0.mk hi275_0
       have HC275_0 := Aside0.mk hl275_0
       clear hi275_0 hl275_0
       replace p275 := eq_true p275
       replace q275 := eq_true q275
       obtain ⟨go67, co67, eo67, gb67, gl67, cl67, HG67⟩ := Kd.S_form HO_267006.out (by have h_ : ((rd t260 x38_2) : Int) < ((x267006_3.length : Int) : Int) := of_decide_eq_true zh5; have h2_ : 0 ≤ ((rd t260 x38_2) : Int) := (of_decide_eq_true zh5); omega)
       (first | cases eo67 | (injection eo67 with ea_ en_ ec_; (first | subst ea_ | (injection ea_ with ea_; subst ea_)); subst ec_; clear en_))
       have GB67 := Aside0.mk gb67
       have GG67 := Aside0.mk HG67
       clear gb67 gl67 HG67
       (try simp only [add_plain] at *)
       (first | simp only [add_plain] at hx275_0 | skip)
       obtain ⟨oki67, ce67, hcl67, hM67, hcc67, _, _, hH67⟩ := Kd.S_elem HO_267006.out [] ((rd t260 x38_2) : Int) (of_decide_eq_true zh5) (by have h_ : ((rd t260 x38_2) : Int) < ((x267006_3.length : Int) : Int) := of_decide_eq_true zh5; first | exact h_ | (have e_ := (Kd.S_reads' HO_267006.out).1; omega) | simpa using h_)
       obtain ⟨ve67_0, rfl, ge67_0⟩ := hM67
       have hv67 := hcc67 0 _ rfl
       have hX67 := HX275_0.out
       (try simp only [add_plain] at hX67)
       (try simp only [Nat.add_zero] at hv67)
       (try rw [show ((Kd.slice 3 (Kd.int .i64))).sz = 1 from rfl, Nat.mul_one] at hv67)
       replace hv67 := Option.some.inj (hv67.symm.trans hX67)
       subst hv67
       clear hX67 hcc67 hcl67
       have UU67 := Aside0.mk (show Kd.R (Kd.int .i64) 3 _ w.heap.size oki67 (.slice A275_0 (rd_L1 x267006_3 (rd t260 x38_2)).length c275_0) (rd_L1 x267006_3 (rd t260 x38_2)) from ge67_0)
       have HH67 := Aside0.mk hH67
       have HN67 := Aside0.mk (Kd.S_reads' HO_267006.out).1
       clear hH67 ge67_0
       refine start_ (n := 22) (S := fun w' => w'.cell? ⟨gb266, 0, none⟩ = some (.int .i64 a0_0) ∧ w'.cell? ⟨gb266, 1, none⟩ = some (.int .i64 a0_1) ∧ w'.cell? ⟨gb266, 2, none⟩ = some (.slice A0_2 l0_2.length c0_2) ∧ w'.cell? ⟨gb266, 3, none⟩ = some (.int .i64 a1_0) ∧ w'.cell? ⟨gb266, 4, none⟩ = some (.int .i64 a1_1) ∧ w'.cell? ⟨gb266, 5, none⟩ = some (.slice (some ad267) t260.length co30) ∧ w'.cell? ⟨gb266, 6, none⟩ = some (.slice (some ⟨go67, 0, none⟩) x267006_3.length co66) ∧ w'.cell? ⟨gb256, 0, none⟩ = some (.int .i64 a0_0) ∧ w'.cell? ⟨gb256, 1, none⟩ = some (.int .i64 a0_1) ∧ w'.cell? ⟨gb256, 2, none⟩ = some (.slice A0_2 l0_2.length c0_2) ∧ w'.cell? ⟨go67, ((rd t260 x38_2)).toNat, none⟩ = some (.slice A275_0 (rd_L1 x267006_3 (rd t260 x38_2)).length c275_0)) (ds := [21]) #[false, false, false, false, false, false, false, false, false, false, false, false, false, false, false, false, false, false, false, false, false, false] (by kernel_rfl) rfl rfl ⟨(blk_cell BK266.out 0).trans rfl, (blk_cell BK266.out 1).trans rfl, (blk_cell BK266.out 2).trans rfl, (blk_cell BK266.out 3).trans rfl, (blk_cell BK266.out 4).trans rfl, (blk_cell BK266.out 5).trans rfl, (blk_cell BK266.out 6).trans rfl, (blk_cell BK256.out 0).trans rfl, (blk_cell BK256.out 1).trans rfl, (blk_cell BK256.out 2).trans rfl, hx275_0⟩ (fun hHeld => ?_); refine with_tabW impl_graphOf.tab12 impl_graphOf.bits12 (fun HT_ HW_ => ?_)
       generalize w64.drew = w65 at HO_36 HO_43 HO_267005 HO_267006 HL271_0 BK256 BK257 BK266 HR271_0 HNB284 HB GG67 HH67 HL275_0 HR275_0 HX275_0 UU67 hx275_0 hHeld ⊢
       refine pure_ (i := 0) (N := some 93) (v := ?_) (a' := ?_) #[true, false, false, false, false, false, false, false, false, false, false, false, false, false, false, false, false, false, false, false, false, false] rfl rfl (any_of HT_.out (by kernel_rfl)) (fun _ _ _ h => h) (Or.inl ⟨by rfl, ?_⟩) ?_ ?_
       rotate_left
       ·intro w'
        go_simp
        with_reducible rfl
       rotate_left
       ·simp only [Act.put, List.setIfInBounds_toArray, List.set_cons_zero, List.set_cons_succ, i64_w, i32_w]
        rfl
       refine pure_ (i := 1) (N := some 94) (v := ?_) (a' := ?_) #[true, true, false, false, false, false, false, false, false, false, false, false, false, false, false, false, false, false, false, false, false, false] rfl rfl (any_of HT_.out (by kernel_rfl)) (fun _ _ _ h => h) (Or.inl ⟨by rfl, ?_⟩) ?_ ?_
       rotate_left
       ·intro w'
        go_simp
        with_reducible rfl
       rotate_left
       ·simp only [Act.put, List.setIfInBounds_toArray, List.set_cons_zero, List.set_cons_succ, i64_w, i32_w]
        rfl
       refine pure_ (i := 2) (N := some 95) (v := ?_) (a' := ?_) #[true, true, true, false, false, false, false, false, false, false, false, false, false, false, false, false, false, false, false, false, false, false] rfl rfl (any_of HT_.out (by kernel_rfl)) (fun _ _ _ h => h) (Or.inl ⟨by rfl, ?_⟩) ?_ ?_
       rotate_left
       ·intro w'
        go_simp
        with_reducible rfl
       rotate_left
       ·simp only [Act.put, List.setIfInBounds_toArray, List.set_cons_zero, List.set_cons_succ, i64_w, i32_w]
        rfl
       refine pure_ (i := 4) (N := some 97) (v := ?_) (a' := ?_) #[true, true, true, false, true, false, false, false, false, false, false, false, false, false, false, false, false, false, false, false, false, false] rfl rfl (any_of HT_.out (by kernel_rfl)) (fun _ _ _ h => h) (Or.inl ⟨by rfl, ?_⟩) ?_ ?_
       rotate_left
       ·intro w'
        go_simp
        with_reducible rfl
       rotate_left
       ·simp only [Act.put, List.setIfInBounds_toArray, List.set_cons_zero, List.set_cons_succ, i64_w, i32_w]
        rfl
       refine pure_ (i := 5) (N := some 98) (v := ?_) (a' := ?_) #[true, true, true, false, true, true, false, false, false, false, false, false, false, false, false, false, false, false, false, false, false, false] rfl rfl (any_of HT_.out (by kernel_rfl)) (fun _ _ _ h => h) (Or.inl ⟨by rfl, ?_⟩) ?_ ?_
       rotate_left
       ·intro w'
        go_simp
        with_reducible rfl
       rotate_left
       ·simp only [Act.put, List.setIfInBounds_toArray, List.set_cons_zero, List.set_cons_succ, i64_w, i32_w]
        rfl
       refine pure_ (i := 6) (N := some 99) (v := ?_) (a' := ?_) #[true, true, true, false, true, true, true, false, false, false, false, false, false, false, false, false, false, false, false, false, false, false] rfl rfl (any_of HT_.out (by kernel_rfl)) (fun _ _ _ h => h) (Or.inl ⟨by rfl, ?_⟩) ?_ ?_
       rotate_left
       ·intro w'
        go_simp
        with_reducible rfl
       rotate_left
       ·simp only [Act.put, List.setIfInBounds_toArray, List.set_cons_zero, List.set_cons_succ, i64_w, i32_w]
        rfl
       refine pure_ (i := 7) (N := some 100) (v := ?_) (a' := ?_) #[true, true, true, false, true, true, true, true, false, false, false, false, false, false, false, false, false, false, false, false, false, false] rfl rfl (any_of HT_.out (by kernel_rfl)) (fun _ _ _ h => h) (Or.inl ⟨by rfl, ?_⟩) ?_ ?_
       rotate_left
       ·intro w'
        go_simp
        with_reducible rfl
       rotate_left
       ·simp only [Act.put, List.setIfInBounds_toArray, List.set_cons_zero, List.set_cons_succ, i64_w, i32_w]
        rfl
       refine pure_ (i := 9) (N := some 102) (v := ?_) (a' := ?_) #[true, true, true, false, true, true, true, true, false, true, false, false, false, false, false, false, false, false, false, false, false, false] rfl rfl (any_of HT_.out (by kernel_rfl)) (fun _ _ _ h => h) (Or.inl ⟨by rfl, ?_⟩) ?_ ?_
       rotate_left
       ·intro w'
        go_simp
        with_reducible rfl
       rotate_left
       ·simp only [Act.put, List.setIfInBounds_toArray, List.set_cons_zero, List.set_cons_succ, i64_w, i32_w]
        rfl
       refine pure_ (i := 12) (N := some 105) (v := ?_) (a' := ?_) #[true, true, true, false, true, true, true, true, false, true, false, false, true, false, false, false, false, false, false, false, false, false] rfl rfl (any_of HT_.out (by kernel_rfl)) (fun _ _ _ h => h) (Or.inl ⟨by rfl, ?_⟩) ?_ ?_
       rotate_left
       ·intro w'
        go_simp
        with_reducible rfl
       rotate_left
       ·simp only [Act.put, List.setIfInBounds_toArray, List.set_cons_zero, List.set_cons_succ, i64_w, i32_w]
        rfl
       refine pure_ (i := 13) (N := some 106) (v := ?_) (a' := ?_) #[true, true, true, false, true, true, true, true, false, true, false, false, true, true, false, false, false, false, false, false, false, false] rfl rfl (any_of HT_.out (by kernel_rfl)) (fun _ _ _ h => h) (Or.inl ⟨by rfl, ?_⟩) ?_ ?_
       rotate_left
       ·intro w'
        go_simp
        with_reducible rfl
       rotate_left
       ·simp only [Act.put, List.setIfInBounds_toArray, List.set_cons_zero, List.set_cons_succ, i64_w, i32_w]
        rfl
       refine pure_ (i := 16) (N := some 109) (v := ?_) (a' := ?_) #[true, true, true, false, true, true, true, true, false, true, false, false, true, true, false, false, true, false, false, false, false, false] rfl rfl (any_of HT_.out (by kernel_rfl)) (fun _ _ _ h => h) (Or.inl ⟨by rfl, ?_⟩) ?_ ?_
       rotate_left
       ·intro w'
        go_simp
        with_reducible rfl
       rotate_left
       ·simp only [Act.put, List.setIfInBounds_toArray, List.set_cons_zero, List.set_cons_succ, i64_w, i32_w]
        rfl
       refine take_ (i := 3) (N := some 96) (v := ?_) (a' := ?_) #[true, true, true, true, true, true, true, true, false, true, false, false, true, true, false, false, true, false, false, false, false, false] rfl rfl (take_ofW HT_.out HW_.out (by kernel_rfl)) (fun _ _ _ h => h) (Or.inl ⟨by rfl, ?_⟩) hHeld ?_ ?_
       rotate_left
       ·rintro w' ⟨s0, s1, s2, s3, s4, s5, s6, s7, s8, s9, s10⟩
        go_simp
        with_reducible rfl
       rotate_left
       ·simp only [Act.put, List.setIfInBounds_toArray, List.set_cons_zero, List.set_cons_succ, i64_w, i32_w]
        rfl
       refine take_ (i := 8) (N := some 101) (v := ?_) (a' := ?_) #[true, true, true, true, true, true, true, true, true, true, false, false, true, true, false, false, true, false, false, false, false, false] rfl rfl (take_ofW HT_.out HW_.out (by kernel_rfl)) (fun _ _ _ h => h) (Or.inl ⟨by rfl, ?_⟩) hHeld ?_ ?_
       rotate_left
       ·rintro w' ⟨s0, s1, s2, s3, s4, s5, s6, s7, s8, s9, s10⟩
        go_simp
        with_reducible rfl
       rotate_left
       ·simp only [Act.put, List.setIfInBounds_toArray, List.set_cons_zero, List.set_cons_succ, i64_w, i32_w]
        rfl
       refine pure_ (i := 10) (N := some 103) (v := ?_) (a' := ?_) #[true, true, true, true, true, true, true, true, true, true, true, false, true, true, false, false, true, false, false, false, false, false] rfl rfl (any_of HT_.out (by kernel_rfl)) (fun _ _ _ h => h) (Or.inl ⟨by rfl, ?_⟩) ?_ ?_
       rotate_left
       ·intro w'
        go_simp
        with_reducible rfl
       rotate_left
       ·simp only [Act.put, List.setIfInBounds_toArray, List.set_cons_zero, List.set_cons_succ, i64_w, i32_w]
        rfl
       refine take_ (i := 11) (N := some 104) (v := ?_) (a' := ?_) #[true, true, true, true, true, true, true, true, true, true, true, true, true, true, false, false, true, false, false, false, false, false] rfl rfl (take_ofW HT_.out HW_.out (by kernel_rfl)) (fun _ _ _ h => h) (Or.inl ⟨by rfl, ?_⟩) hHeld ?_ ?_
       rotate_left
       ·rintro w' ⟨s0, s1, s2, s3, s4, s5, s6, s7, s8, s9, s10⟩
        go_simp
        with_reducible rfl
       rotate_left
       ·simp only [Act.put, List.setIfInBounds_toArray, List.set_cons_zero, List.set_cons_succ, i64_w, i32_w]
        rfl
       refine take_ (i := 14) (N := some 107) (v := ?_) (a' := ?_) #[true, true, true, true, true, true, true, true, true, true, true, true, true, true, true, false, true, false, false, false, false, false] rfl rfl (take_ofW HT_.out HW_.out (by kernel_rfl)) (fun _ _ _ h => h) (Or.inl ⟨by rfl, ?_⟩) hHeld ?_ ?_
       rotate_left
       ·rintro w' ⟨s0, s1, s2, s3, s4, s5, s6, s7, s8, s9, s10⟩
        go_simp
        with_reducible rfl
       rotate_left
       ·simp only [Act.put, List.setIfInBounds_toArray, List.set_cons_zero, List.set_cons_succ, i64_w, i32_w]
        rfl
       refine pure_ (i := 15) (N := some 108) (v := ?_) (a' := ?_) #[true, true, true, true, true, true, true, true, true, true, true, true, true, true, true, true, true, false, false, false, false, false] rfl rfl (any_of HT_.out (by kernel_rfl)) (fun _ _ _ h => h) (Or.inl ⟨by rfl, ?_⟩) ?_ ?_
       rotate_left
       ·intro w'
        go_simp
        with_reducible rfl
       rotate_left
       ·simp only [Act.put, List.setIfInBounds_toArray, List.set_cons_zero, List.set_cons_succ, i64_w, i32_w]
        rfl
       refine pure_ (i := 17) (N := some 110) (v := ?_) (a' := ?_) #[true, true, true, true, true, true, true, true, true, true, true, true, true, true, true, true, true, true, false, false, false, false] rfl rfl (any_of HT_.out (by kernel_rfl)) (fun _ _ _ h => h) (Or.inl ⟨by rfl, ?_⟩) ?_ ?_
       rotate_left
       ·intro w'
        go_simp
        with_reducible rfl
       rotate_left
       ·simp only [Act.put, List.setIfInBounds_toArray, List.set_cons_zero, List.set_cons_succ, i64_w, i32_w]
        rfl
       refine one_ (i := 18) (N := some 111) #[true, true, true, true, true, true, true, true, true, true, true, true, true, true, true, true, true, true, true, false, false, false] rfl rfl (one_of HT_.out (by kernel_rfl)) (by decide) (fun K hK => ?_)
       refine value_ (w1 := ?_) (v := ?_) (by rfl) rfl ?_ ?_
       rotate_left 2
       ·go_simp
        constructor
        ·rfl
        rfl
       refine hK.out _ _ ⟨(blk_cell (blk_alloc BK266.out _) 0).trans rfl, (blk_cell (blk_alloc BK266.out _) 1).trans rfl, (blk_cell (blk_alloc BK266.out _) 2).trans rfl, (blk_cell (blk_alloc BK266.out _) 3).trans rfl, (blk_cell (blk_alloc BK266.out _) 4).trans rfl, (blk_cell (blk_alloc BK266.out _) 5).trans rfl, (blk_cell (blk_alloc BK266.out _) 6).trans rfl, (blk_cell (blk_alloc BK256.out _) 0).trans rfl, (blk_cell (blk_alloc BK256.out _) 1).trans rfl, (blk_cell (blk_alloc BK256.out _) 2).trans rfl, (World.cell?_alloc_lt _ _ _ (World.block_lt_of_cell? _ _ (hHeld.2.2.2.2.2.2.2.2.2.2))).trans (hHeld.2.2.2.2.2.2.2.2.2.2)⟩ (fun hHeld => ?_)
       clear hK K
       refine norm_ (a' := ?_) ?_ ?_
       rotate_left
       ·show Act.put _ (some 111) _ = _
        simp only [Act.put, List.setIfInBounds_toArray, List.set_cons_zero, List.set_cons_succ, i64_w, i32_w]
        rfl
       refine one_ (i := 19) (N := some 112) #[true, true, true, true, true, true, true, true, true, true, true, true, true, true, true, true, true, true, true, true, false, false] rfl rfl (one_of HT_.out (by kernel_rfl)) (by decide) (fun K hK => ?_)
       refine Kd.R_append_step (Kd.int .i64) (w0 := w) w.heap.size (by rfl) (.tmp 104) (.tmp 111) 22 3 (.int .i64 0) 8 rfl Try.underlying22 info3 rfl (by decide) (by omega) (.slice A275_0 (rd_L1 x267006_3 (rd t260 x38_2)).length c275_0) (rd_L1 x267006_3 (rd t260 x38_2)) (wrap64 ((wrap64 ((wrap64 ((wrap64 (Int.tdiv (rd t260 x38_2) a0_0)) + (rd (rd_L1 x43_3 x45_3) 1))) * a0_0)) + (wrap64 ((Int.tmod (rd t260 x38_2) a0_0) + (rd (rd_L1 x43_3 x45_3) 0))))) [.int .i64 (wrap64 ((wrap64 ((wrap64 ((wrap64 (Int.tdiv (rd t260 x38_2) a0_0)) + (rd (rd_L1 x43_3 x45_3) 1))) * a0_0)) + (wrap64 ((Int.tmod (rd t260 x38_2) a0_0) + (rd (rd_L1 x43_3 x45_3) 0)))))] (fun k_ => oki67 k_ ∨ ((fun k_ => some k_ ≠ (.slice (some ad267) t260.length co30 : Value).ownBlock ∧ some k_ ≠ (.slice (some ad271) x43_3.length co43 : Value).ownBlock ∧ some k_ ≠ (.slice (some ad267) t260.length co30 : Value).ownBlock ∧ k_ ≠ (rngIn na284_ nb284_ k_))) k_ ∧ w65.heap.size ≤ k_) (fun _ => False) rfl rfl ?aP (fun _ hk => hk.elim) ?aF ?aO ?aB ?aS ?aL ?_
       (case aP => exact rfl)
       (case aB => exact zh1)
       (case aF => exact (fun k_ hk => .inr ⟨⟨Kd.fresh' (Kd.R_lt zh12) k_ hk, Kd.fresh' (Kd.S_lt zh23) k_ hk, Kd.fresh' (Kd.R_lt zh8) k_ hk, rng_fresh HNB284.out hk⟩, hk⟩))
       (case aO => exact (by (with_reducible repeat (first | apply Kd.R_alloc | apply Kd.R_drewN | apply Kd.R_drew)); exact Kd.R_mono UU67.out (fun _ hk => .inl hk)))
       (case aS => exact (below_size zh1))
       (case aL => have := LMc58.out; omega)
       intro v277 w68 ho hb hg hat
       (first | have HS10_ := cell_grown hg (hHeld.2.2.2.2.2.2.2.2.2.2) zh28 | have HS10_ := cell_grown hg (cell_unalloc (hHeld.2.2.2.2.2.2.2.2.2.2) (by first | (rw [add_block]; exact Kd.S_lt HO_267006.out _ rfl) | (show (Addr.add _ _).block < _; rw [add_block]; exact Kd.S_lt HO_267006.out _ rfl) | exact Kd.S_lt HO_267006.out _ rfl)) zh28)
       rw [← Ny276.out] at ho
       have n0_ := Aside0.mk (Kd.R_grown2 zh12 rfl hg (fun k_ e_ => (HL275_0.out.1 k_ e_).1.1))
       have n1_ := Aside0.mk (Kd.S_grown zh23 hg (by exact fun k_ hk_ e_ => rng_apart (hk_.2.2.2) ((HL275_0.out.1 k_ e_.symm).1.2.2.2)))
       have n2_ := Aside0.mk (Kd.R_grown2 zh8 rfl hg (fun k_ e_ => (HL275_0.out.1 k_ e_).1.2.2.1))
       have n3_ := Aside0.mk (blk_grown (g := gb256) (o := .cells #[.int .i64 a0_0, .int .i64 a0_1, .slice A0_2 l0_2.length c0_2] 31 (0, 0)) zh3 hg (Kd.R_ne HL275_0.out BK256.out (by decide)))
       have n4_ := Aside0.mk (blk_grown (g := gb257) (o := .cells #[.int .i64 a1_0, .int .i64 a1_1] 33 (0, 0)) zh6 hg (Kd.R_ne HL275_0.out BK257.out (by decide)))
       have n5_ := Aside0.mk (blk_grown (g := gb266) (o := .cells #[.int .i64 a0_0, .int .i64 a0_1, .slice A0_2 l0_2.length c0_2, .int .i64 a1_0, .int .i64 a1_1, .slice (some ad267) t260.length co30, .slice (some ⟨go67, 0, none⟩) x267006_3.length co66] 59 (0, 0)) zh11 hg (Kd.R_ne HL275_0.out BK266.out (by decide)))
       have n6_ := Aside0.mk (hb)
       have n7_ := Aside0.mk (Kd.H_grown (Kd.H_widen (by repeat (first | exact HH67.out | refine Kd.H_alloc ?_ _ | refine Kd.H_drewN ?_ _ | refine Kd.H_drew ?_))) hg (fun k_ e_ => .inl (UU67.out.1 k_ e_)))
       have n8_ := Aside0.mk (ho)
       have n9_ := Aside0.mk (show nb284_ ≤ w68.heap.size from zh7)
       clear HO_36
       clear HO_43
       clear HO_267005
       clear BK256
       clear BK257
       clear BK266
       clear HB
       clear HH67
       clear HNB284
       clear HO_267006
       clear UU67
       clear HL271_0
       clear HL275_0
       have HO_36 := n0_
       have HO_43 := n1_
       have HO_267005 := n2_
       have BK256 := n3_
       have BK257 := n4_
       have BK266 := n5_
       have HB := n6_
       have HH67 := n7_
       have HO278 := n8_
       have HNB284 := n9_
       clear n0_ n1_ n2_ n3_ n4_ n5_ n6_ n7_ n8_ n9_
       clear ho hb hg hat
       have p59 : 0 ≤ ((rd t260 x38_2) : Int) := of_decide_eq_true zh5
       have q59 : ((rd t260 x38_2) : Int) < ((x267006_3.length : Int) : Int) := of_decide_eq_true zh5
       replace p59 := eq_true p59
       replace q59 := eq_true q59
       obtain ⟨Ao71, co71, eo71⟩ := Kd.R_slice HO278.out
       (first | subst eo71 | (injection eo71 with f1_ f2_ f3_; have f4_ := f1_.symm; have f5_ := f3_.symm; clear f1_ f2_ f3_; subst f4_; subst f5_))
       obtain ⟨_, _, hraw69, _, _, hcc69, _⟩ := Kd.H_raw HH67.out (of_decide_eq_true zh5) (by have h_ : ((rd t260 x38_2) : Int) < ((x267006_3.length : Int) : Int) := of_decide_eq_true zh5; first | exact h_ | (have e_ := (HN67.out); omega) | simpa using h_)
       obtain ⟨_, hfr69⟩ := Kd.H_at HH67.out (of_decide_eq_true zh5) (by have h_ : ((rd t260 x38_2) : Int) < ((x267006_3.length : Int) : Int) := of_decide_eq_true zh5; first | exact h_ | (have e_ := (HN67.out); omega) | simpa using h_)
       have hx69_0 := hcc69 0 _ rfl
       have hf69_0 := hfr69 0
       (try simp only [Nat.add_zero] at hx69_0 hf69_0)
       (try rw [show ((Kd.slice 3 (Kd.int .i64))).sz = 1 from rfl, Nat.mul_one] at hx69_0)
       (try rw [show ((Kd.slice 3 (Kd.int .i64))).sz = 1 from rfl, Nat.mul_one] at hf69_0)
       have HP69 := Kd.S_seg0 HH67.out (of_decide_eq_true zh5) (by have h_ : ((rd t260 x38_2) : Int) < ((x267006_3.length : Int) : Int) := of_decide_eq_true zh5; first | exact h_ | (have e_ := (HN67.out); omega) | simpa using h_) (seg := [.slice Ao71 y276.length co71]) (j := 0) (show 1 ≤ 1 from by decide) (x' := y276) (Kd.M_row HO278.out) (fun _ hk => hk)
       (try simp only [show ((Kd.slice 3 (Kd.int .i64))).sz = 1 from rfl, Nat.mul_one, Nat.add_zero] at HP69)
       clear hcc69 hfr69
       have HNB256_go67 := Aside0.mk (show gb256 ≠ go67 from by have h_ := Kd.R_ne hraw69 BK256.out (by decide); intro e_; exact h_ (by rw [e_]; rfl))
       have HNB257_go67 := Aside0.mk (show gb257 ≠ go67 from by have h_ := Kd.R_ne hraw69 BK257.out (by decide); intro e_; exact h_ (by rw [e_]; rfl))
       have HNB266_go67 := Aside0.mk (show gb266 ≠ go67 from by have h_ := Kd.R_ne hraw69 BK266.out (by decide); intro e_; exact h_ (by rw [e_]; rfl))
       have HS69 := HP69.1
       rw [← Ny279.out] at HS69
       have HQ69 := Aside0.mk HS69
       obtain ⟨_, hgg69⟩ := Kd.R_typed hraw69 go67 rfl
       have GG69_ := Aside0.mk hgg69
       clear HP69 HS69 hgg69
       refine hK.out _ _ ⟨(blk_cell BK266.out 0).trans rfl, (blk_cell BK266.out 1).trans rfl, (blk_cell BK266.out 2).trans rfl, (blk_cell BK266.out 3).trans rfl, (blk_cell BK266.out 4).trans rfl, (blk_cell BK266.out 5).trans rfl, (blk_cell BK266.out 6).trans rfl, (blk_cell BK256.out 0).trans rfl, (blk_cell BK256.out 1).trans rfl, (blk_cell BK256.out 2).trans rfl, HS10_⟩ (fun hHeld => ?_)
       clear hK K
       refine norm_ (a' := ?_) ?_ ?_
       rotate_left
       ·show Act.put _ (some 112) _ = _
        simp only [Act.put, List.setIfInBounds_toArray, List.set_cons_zero, List.set_cons_succ, i64_w, i32_w]
        rfl
       refine pure_ (i := 20) (N := some 113) (v := ?_) (a' := ?_) #[true, true, true, true, true, true, true, true, true, true, true, true, true, true, true, true, true, true, true, true, true, false] rfl rfl (any_of HT_.out (by kernel_rfl)) (fun _ _ _ h => h) (Or.inl ⟨by rfl, ?_⟩) ?_ ?_
       rotate_left
       ·intro w'
        go_simp
        with_reducible rfl
       rotate_left
       ·simp only [Act.put, List.setIfInBounds_toArray, List.set_cons_zero, List.set_cons_succ, i64_w, i32_w]
        rfl
       refine last_ (i := 21) (N := none) #[true, true, true, true, true, true, true, true, true, true, true, true, true, true, true, true, true, true, true, true, true, true] rfl rfl (one_of HT_.out (by kernel_rfl)) (by decide) (fun K hK => ?_)
       refine skip_ (w1 := ?_) (by rfl) rfl ?_ ?_
       rotate_left
       ·go_simp
        rfl
       refine hK.out _ _ ?_
       clear hK K
       refine done_ (done_of HT_.out (by kernel_rfl)) ?_
       try go_wp2
       (try simp only [← hl43_3])
       go_roundg k3
       case measure => have := HJ2.out; have := HK2.out; have := HK3.out; omega
       case rel => exact ⟨(x43_3), (wrap64 (x45_3 + 1)), (y279), (.slice (some ⟨go67, 0, none⟩) x267006_3.length co66), zh22, H', ⟨zh25⟩, ⟨by (try simp only [hl43_3]); (with_reducible repeat (first | apply Kd.R_alloc | apply Kd.R_drewN | apply Kd.R_drew)); exact Kd.R_mono (Kd.R_far (p := ⟨go67, ((rd t260 x38_2) : Int).toNat, none⟩) (Kd.R_types HO_36.out GG69_.out (by decide)) (fun _ hk => hk.2) (.slice Ao71 y276.length co71)) (fun _ hk => trivial)⟩, ⟨by (try simp only [hl43_3]); (with_reducible repeat (first | apply Kd.S_alloc | apply Kd.S_drewN | apply Kd.S_drew)); exact Kd.S_mono (Kd.S_far (p := ⟨go67, ((rd t260 x38_2) : Int).toNat, none⟩) (Kd.S_mono HO_43.out (fun k_ hk => (⟨hk, fun e_ => hk.2.2.1 (by rw [e_]; rfl)⟩ : _ ∧ k_ ≠ go67))) (fun _ hk => hk.2) (.slice Ao71 y276.length co71)) (fun _ hk => ⟨hk.1.1, ⟨hk.1.2.1, ⟨hk.1.2.2.1, hk.1.2.2.2⟩⟩⟩)⟩, ⟨by (try simp only [hl43_3]); (with_reducible repeat (first | apply Kd.R_alloc | apply Kd.R_drewN | apply Kd.R_drew)); exact Kd.R_mono (Kd.R_far (p := ⟨go67, ((rd t260 x38_2) : Int).toNat, none⟩) (Kd.R_types HO_267005.out GG69_.out (by decide)) (fun _ hk => hk.2) (.slice Ao71 y276.length co71)) (fun _ hk => trivial)⟩, ⟨by (try simp only [hl43_3]); first | exact HQ69.out | ((with_reducible repeat (first | apply Kd.S_alloc | apply Kd.S_drewN | apply Kd.S_drew)); exact HQ69.out)⟩, ⟨by (try simp only [hl43_3]); (with_reducible repeat (first | refine blk_drewN ?_ _ | refine blk_drew ?_ | refine blk_alloc ?_ _)); refine blk_far ?_ HNB256_go67.out _; first | exact BK256.out | ((with_reducible repeat (first | refine blk_drewN ?_ _ | refine blk_drew ?_ | refine blk_alloc ?_ _)); exact BK256.out)⟩, ⟨by (try simp only [hl43_3]); (with_reducible repeat (first | refine blk_drewN ?_ _ | refine blk_drew ?_ | refine blk_alloc ?_ _)); refine blk_far ?_ HNB257_go67.out _; first | exact BK257.out | ((with_reducible repeat (first | refine blk_drewN ?_ _ | refine blk_drew ?_ | refine blk_alloc ?_ _)); exact BK257.out)⟩, ⟨by (try simp only [hl43_3]); (with_reducible repeat (first | refine blk_drewN ?_ _ | refine blk_drew ?_ | refine blk_alloc ?_ _)); refine blk_far ?_ HNB266_go67.out _; first | exact BK266.out | ((with_reducible repeat (first | refine blk_drewN ?_ _ | refine blk_drew ?_ | refine blk_alloc ?_ _)); exact BK266.out)⟩, ⟨zh10⟩, ⟨by repeat (first | (with_reducible first | exact HB.out | apply below_alloc | apply pw_below_drewN | apply below_drew1 | refine below_set ?_ GB67.out | refine below_set ?_ GE256.out | refine below_set ?_ GE257.out | refine below_set ?_ GE266.out) | exact HB.out)⟩⟩

end Go.Proofs.Ytemaokhlolimhaa.Q

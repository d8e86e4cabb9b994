/- Written by a program of this session: functions of the translation as plain Lean functions, each with a proof that the call does what the plain function says; the conditions stand in each theorem. -/
import Derived.Test.YtmfbhhicioepjaaQ0
import Derived.Test.YtmfbhhicioepjaaQ4
import Derived.Test.YtmfbhhicioepjaaQ5
import Derived.Test.YtmfbhhicioepjaaHSort
namespace Go.Proofs.Ytmfbhhicioepjaa.Q
open Go.RowKit Go.Proofs.YtmfbhhicioepjaaW.PrintWords Go.Proofs.YtmfbhhicioepjaaW.PrintLast Go.Proofs.YtmfbhhicioepjaaW.PrintMore
attribute [local go_sem] max2_int min2_int max_two min_two max_three min_three max_four min_four   -- for this text's walks alone
set_option linter.unusedVariables false
set_option linter.unusedSimpArgs false

theorem zg1 {p : Prop} (h : p := by repeat (first | (with_reducible first | exact HB.out | apply below_alloc | apply pw_below_drewN | apply below_drew1 | refine below_set ?_ GE224.out | refine below_set ?_ GE225.out | refine below_set ?_ GE234.out) | exact HB.out)) : p := h
theorem zg2 {p : Prop} (h : p := by repeat (first | (with_reducible first | exact HB.out | apply below_alloc | apply pw_below_drewN | apply below_drew1 | refine below_set ?_ GE224.out | refine below_set ?_ GE225.out) | exact HB.out)) : p := h
theorem zg3 {p : Prop} (h : p := by first | exact BK224.out | ((with_reducible repeat (first | refine blk_drewN ?_ _ | refine blk_drew ?_ | refine blk_alloc ?_ _)); exact BK224.out)) : p := h
theorem zg4 {p : Prop} (h : p := by first | exact HR239_0.out | (repeat (first | (with_reducible exact HR239_0.out) | (with_reducible refine Kd.C_alloc ?_ _) | (with_reducible refine Kd.C_drewN ?_ _) | (with_reducible refine Kd.C_drew ?_) | exact HR239_0.out))) : p := h
theorem zg5 {p : Prop} (h : p := by first | (with_reducible assumption) | assumption) : p := h
theorem zg6 {p : Prop} (h : p := by first | exact BK225.out | ((with_reducible repeat (first | refine blk_drewN ?_ _ | refine blk_drew ?_ | refine blk_alloc ?_ _)); exact BK225.out)) : p := h
theorem zg7 {p : Prop} (h : p := by first | exact Nat.le_trans HNB252.out hkp.1 | exact Nat.le_trans HNB252.out hb.size | exact Nat.le_trans HNB252.out hg.size | exact Nat.le_trans HNB252.out (Nat.le_trans (by simp) hb.size) | exact Nat.le_trans HNB252.out (Nat.le_trans (by simp) hg.size) | (rw [hw]; simpa using HNB252.out) | exact HNB252.out) : p := h
theorem zg8 {p : Prop} (h : p := by first | exact HO_235005.out | ((with_reducible repeat (first | apply Kd.R_alloc | apply Kd.R_drewN | apply Kd.R_drew)); exact HO_235005.out)) : p := h
theorem zg9 {p : Prop} (h : p := by repeat (first | exact (Kd.C_below HR0_2.out HB.out) | (with_reducible refine Kd.C_alloc ?_ _) | (with_reducible refine Kd.C_drewN ?_ _) | (with_reducible refine Kd.C_drew ?_))) : p := h
theorem zg10 {p : Prop} (h : p := by first | exact HNB252.out | exact Nat.le_trans HNB252.out (by simp)) : p := h
theorem zg11 {p : Prop} (h : p := by first | exact BK234.out | ((with_reducible repeat (first | refine blk_drewN ?_ _ | refine blk_drew ?_ | refine blk_alloc ?_ _)); exact BK234.out)) : p := h
theorem zg12 {p : Prop} (h : p := by first | exact HO_36.out | ((with_reducible repeat (first | apply Kd.R_alloc | apply Kd.R_drewN | apply Kd.R_drew)); exact HO_36.out)) : p := h
theorem zg13 {p : Prop} (h : p := by (try simp only [hl43_3]); first | exact BK234.out | ((with_reducible repeat (first | refine blk_drewN ?_ _ | refine blk_drew ?_ | refine blk_alloc ?_ _)); exact BK234.out)) : p := h
theorem zg14 {p : Prop} (h : p := by (try simp only [hl43_3]); first | exact BK225.out | ((with_reducible repeat (first | refine blk_drewN ?_ _ | refine blk_drew ?_ | refine blk_alloc ?_ _)); exact BK225.out)) : p := h
theorem zg15 {p : Prop} (h : p := by (try simp only [hl43_3]); first | exact BK224.out | ((with_reducible repeat (first | refine blk_drewN ?_ _ | refine blk_drew ?_ | refine blk_alloc ?_ _)); exact BK224.out)) : p := h
theorem zg16 {p : Prop} (h : p := by (try simp only [List.map_toArray, List.map_cons, List.map_nil]); first | done | rfl | (simp only [List.length_drop, List.length_take]; rfl)) : p := h
theorem zg17 {p : Prop} (h : p := by (try simp only [hl43_3]); first | exact HO_235005.out | ((with_reducible repeat (first | apply Kd.R_alloc | apply Kd.R_drewN | apply Kd.R_drew)); exact HO_235005.out)) : p := h
theorem zg18 {p : Prop} (h : p := by (try simp only [hl43_3]); first | exact HO_36.out | ((with_reducible repeat (first | apply Kd.R_alloc | apply Kd.R_drewN | apply Kd.R_drew)); exact HO_36.out)) : p := h
theorem zg19 {p : Prop} (h : p := by first | exact HO230.out | ((with_reducible repeat (first | apply Kd.R_alloc | apply Kd.R_drewN | apply Kd.R_drew)); exact HO230.out)) : p := h
theorem zg20 {p : Prop} (h : p := by (try simp only [hl43_3]); first | exact HO_235006.out | ((with_reducible repeat (first | apply Kd.S_alloc | apply Kd.S_drewN | apply Kd.S_drew)); exact HO_235006.out)) : p := h
theorem zg21 {p : Prop} (h : p := by (try simp only [hl43_3]); first | exact HO_43.out | ((with_reducible repeat (first | apply Kd.S_alloc | apply Kd.S_drewN | apply Kd.S_drew)); exact HO_43.out)) : p := h
theorem zg22 {p : Prop} (h : p := by first | rfl | (simp; done) | (simp [*]; done)) : p := h
theorem zg23 {p : Prop} (h : p := by first | exact HO_43.out | ((with_reducible repeat (first | apply Kd.S_alloc | apply Kd.S_drewN | apply Kd.S_drew)); exact HO_43.out)) : p := h
theorem zg24 {p : Prop} (h : p := by repeat (first | (with_reducible first | exact HB.out | apply below_alloc | apply pw_below_drewN | apply below_drew1 | refine below_set ?_ GE224.out) | exact HB.out)) : p := h
theorem zg25 {p : Prop} (h : p := by have := HJ2.out; have := HK2.out; have := HK3.out; omega) : p := h
theorem zg26 {p : Prop} (h : p := by first | exact HO_235006.out | ((with_reducible repeat (first | apply Kd.S_alloc | apply Kd.S_drewN | apply Kd.S_drew)); exact HO_235006.out)) : p := h
theorem zg27 {p : Prop} (h : p := by repeat (first | (with_reducible first | exact HB.out | apply below_alloc | apply pw_below_drewN | apply below_drew1) | exact HB.out)) : p := h
theorem zg28 {p : Prop} (h : p := by first | (rw [add_block]; exact (fun e_ => ((HL243_0.out.1 _ e_.symm).2) rfl)) | (show some (Addr.add _ _).block ≠ _; rw [add_block]; exact (fun e_ => ((HL243_0.out.1 _ e_.symm).2) rfl)) | exact (fun e_ => ((HL243_0.out.1 _ e_.symm).2) rfl)) : p := h
theorem zg29 {p : Prop} (h : p := by (with_reducible repeat (first | apply Kd.S_alloc | apply Kd.S_drewN | apply Kd.S_drew)); exact Kd.S_mono HO233.out (fun _ hk => hk.2)) : p := h
theorem zg30 {p : Prop} (h : p := by first | exact q239 | exact of_decide_eq_true zg5 | (have e_ := (Kd.S_reads' HO_43.out).1; omega)) : p := h
theorem zg31 {p : Prop} (h : p := by rw [hg]; exact Nat.ne_of_lt (blk_lt (g := gb224) (o := .cells #[.int .i64 a0_0, .int .i64 a0_1, .slice A0_2 l0_2.length c0_2] 30 (0, 0)) zg3)) : p := h
theorem zg32 {p : Prop} (h : p := by rw [hg]; exact Nat.ne_of_gt (blk_lt (g := gb224) (o := .cells #[.int .i64 a0_0, .int .i64 a0_1, .slice A0_2 l0_2.length c0_2] 30 (0, 0)) zg3)) : p := h
/-! ### impl_graphOf: function 68 -/
mutual
def impl_graphOf.j0 : Nat → Bool → Int → Int → List Int → Int → Int → Option (List Int × (List (List Int)) × Bool)
 | 0, _, _, _, _, _, _ => none
 | k + 1, x20, x225000, x225001, x225002, x226000, x226001 => if x20 = true then (some (([] : List Int), ([] : List (List Int)), false)) else ((impl_Board_present.f k x225000 x225001 x225002).bind fun t228 => (if 0 ≤ (wrap64 (x225000 * x225001)) then (if (wrap64 (x225000 * x225001) : Int).toNat ≤ 11728124029610 then (impl_graphOf.l0 k t228 (t228.length : Int) 0 x225000 x225001 x225002 x226000 x226001 x225000 x225001 x225002 x226000 x226001 t228 (List.replicate (wrap64 (x225000 * x225001) : Int).toNat [])) else (none)) else (none)))
def impl_graphOf.l0 : Nat → List Int → Int → Int → Int → Int → List Int → Int → Int → Int → Int → List Int → Int → Int → List Int → List (List Int) → Option (List Int × (List (List Int)) × Bool)
 | 0, _, _, _, _, _, _, _, _, _, _, _, _, _, _, _ => none
 | k + 1, x36, x37, x38, x225000, x225001, x225002, x226000, x226001, x235000, x235001, x235002, x235003, x235004, x235005, x235006 => if x38 < x37 then (if 0 ≤ x38 then (if x38 < (x36.length : Int) then ((impl_Leaper_steps.f k x226000 x226001).bind fun t236 => (impl_graphOf.l1 k (rd x36 x38) x36 x37 x38 t236 (t236.length : Int) 0 x225000 x225001 x225002 x226000 x226001 x235000 x235001 x235002 x235003 x235004 x235005 x235006)) else (none)) else (none)) else (some (x235005, x235006, true))
def impl_graphOf.l1 : Nat → Int → List Int → Int → Int → List (List Int) → Int → Int → Int → Int → List Int → Int → Int → Int → Int → List Int → Int → Int → List Int → List (List Int) → Option (List Int × (List (List Int)) × Bool)
 | 0, _, _, _, _, _, _, _, _, _, _, _, _, _, _, _, _, _, _, _ => none
 | k + 1, x8, x36, x37, x38, x43, x44, x45, x225000, x225001, x225002, x226000, x226001, x235000, x235001, x235002, x235003, x235004, x235005, x235006 => if x45 < x44 then (if 0 ≤ x45 then (if x45 < (x43.length : Int) then (if x225000 = 0 then (none) else (if 0 < ((rd_L1 x43 x45).length : Int) then (if 1 < ((rd_L1 x43 x45).length : Int) then (if (wrap64 ((Int.tmod x8 x225000) + (rd (rd_L1 x43 x45) 0))) ≥ 0 then (if (wrap64 ((Int.tmod x8 x225000) + (rd (rd_L1 x43 x45) 0))) < x225000 then (if (wrap64 ((wrap64 (Int.tdiv x8 x225000)) + (rd (rd_L1 x43 x45) 1))) ≥ 0 then (if (wrap64 ((wrap64 (Int.tdiv x8 x225000)) + (rd (rd_L1 x43 x45) 1))) < x225001 then ((impl_Board_has.f k x225000 x225001 x225002 (wrap64 ((wrap64 ((wrap64 ((wrap64 (Int.tdiv x8 x225000)) + (rd (rd_L1 x43 x45) 1))) * x225000)) + (wrap64 ((Int.tmod x8 x225000) + (rd (rd_L1 x43 x45) 0)))))).bind fun t242 => (if t242 = true then (if 0 ≤ x8 then (if x8 < (x235006.length : Int) then (if (rd_L1 x235006 x8).length < 17592186044416 then (impl_graphOf.l1 k x8 x36 x37 x38 x43 x44 (wrap64 (x45 + 1)) x225000 x225001 x225002 x226000 x226001 x235000 x235001 x235002 x235003 x235004 x235005 (x235006.set (x8 : Int).toNat ((rd_L1 x235006 x8) ++ [wrap64 ((wrap64 ((wrap64 ((wrap64 (Int.tdiv x8 x225000)) + (rd (rd_L1 x43 x45) 1))) * x225000)) + (wrap64 ((Int.tmod x8 x225000) + (rd (rd_L1 x43 x45) 0))))]))) else (none)) else (none)) else (none)) else (impl_graphOf.l1 k x8 x36 x37 x38 x43 x44 (wrap64 (x45 + 1)) x225000 x225001 x225002 x226000 x226001 x235000 x235001 x235002 x235003 x235004 x235005 x235006))) else (impl_graphOf.l1 k x8 x36 x37 x38 x43 x44 (wrap64 (x45 + 1)) x225000 x225001 x225002 x226000 x226001 x235000 x235001 x235002 x235003 x235004 x235005 x235006)) else (impl_graphOf.l1 k x8 x36 x37 x38 x43 x44 (wrap64 (x45 + 1)) x225000 x225001 x225002 x226000 x226001 x235000 x235001 x235002 x235003 x235004 x235005 x235006)) else (impl_graphOf.l1 k x8 x36 x37 x38 x43 x44 (wrap64 (x45 + 1)) x225000 x225001 x225002 x226000 x226001 x235000 x235001 x235002 x235003 x235004 x235005 x235006)) else (impl_graphOf.l1 k x8 x36 x37 x38 x43 x44 (wrap64 (x45 + 1)) x225000 x225001 x225002 x226000 x226001 x235000 x235001 x235002 x235003 x235004 x235005 x235006)) else (none)) else (none))) else (none)) else (none)) else (if 0 ≤ x8 then (if x8 < (x235006.length : Int) then (if (rd_L1 x235006 x8).length < 4611686018427387904 then (impl_graphOf.l0 k x36 x37 (wrap64 (x38 + 1)) x225000 x225001 x225002 x226000 x226001 x235000 x235001 x235002 x235003 x235004 x235005 (x235006.set (x8 : Int).toNat (sortL (rd_L1 x235006 x8)))) else (none)) else (none)) else (none))
end
def impl_graphOf.f (k : Nat) (a0_0 : Int) (a0_1 : Int) (l0_2 : List Int) (a1_0 : Int) (a1_1 : Int) : Option (List Int × (List (List Int)) × Bool) := (impl_IsBoard.f k a0_0 a0_1 l0_2).bind fun t226 => (if t226 = true then ((impl_IsLeaper.f a1_0 a1_1).bind fun t227 => (impl_graphOf.j0 k (!t227) a0_0 a0_1 l0_2 a1_0 a1_1)) else (impl_graphOf.j0 k true a0_0 a0_1 l0_2 a1_0 a1_1))
def impl_graphOf.T3 : Bool × List (List Nat × List Nat) := (true, [([], []), ([], []), ([], []), ([2], [2]), ([], []), ([4], [4]), ([], []), ([6], [6]), ([5, 7], [5, 7]), ([8, 8], [8]), ([0, 1, 3, 9], [0, 1, 3, 9]), ([10], [10]), ([11, 3, 0, 1, 2, 3, 4, 5, 6, 7, 8, 9, 10, 11], [11])])
def impl_graphOf.B3 : List Nat := [0, 0, 0, 4, 0, 16, 0, 64, 240, 496, 1023, 2047, 4095]
theorem impl_graphOf.tab3 : rtab .any (opsOf Try.f68 3) = impl_graphOf.T3 := by kernel_rfl
theorem impl_graphOf.bits3 : waitsOk impl_graphOf.T3.2 impl_graphOf.B3 = true := by kernel_rfl
def impl_graphOf.T10 : Bool × List (List Nat × List Nat) := (true, [([], []), ([], []), ([1], [1]), ([0, 2], [0, 2]), ([], []), ([4], [4]), ([5], [5]), ([3, 6], [3, 6]), ([], []), ([], []), ([9], [9]), ([8, 10], [8, 10]), ([], []), ([12], [12]), ([13], [13]), ([11, 14], [11, 14]), ([7, 0, 1, 2, 3, 4, 5, 6, 7], [7]), ([15, 16, 0, 1, 2, 3, 4, 5, 6, 7, 8, 9, 10, 11, 12, 13, 14, 15, 16], [15])])
def impl_graphOf.B10 : List Nat := [0, 0, 2, 7, 0, 16, 48, 127, 0, 0, 512, 1792, 0, 4096, 12288, 32512, 255, 131071]
theorem impl_graphOf.tab10 : rtab .any (opsOf Try.f68 10) = impl_graphOf.T10 := by kernel_rfl
theorem impl_graphOf.bits10 : waitsOk impl_graphOf.T10.2 impl_graphOf.B10 = true := by kernel_rfl
def impl_graphOf.T12 : Bool × List (List Nat × List Nat) := (true, [([], []), ([0], [0]), ([1], [1]), ([2], [2]), ([], []), ([], []), ([5], [5]), ([6], [6]), ([7], [7]), ([], []), ([8, 9], [8, 9]), ([10], [10]), ([], []), ([], []), ([13], [13]), ([12, 14], [12, 14]), ([], []), ([15, 16], [15, 16]), ([17], [17]), ([11, 18], [11, 18]), ([3, 4, 0, 1, 2, 3, 4, 5, 6, 7, 8, 9, 10, 11, 12, 13, 14, 15, 16, 17, 18, 19], [3, 4]), ([20, 19, 19, 0, 1, 2, 3, 4, 5, 6, 7, 8, 9, 10, 11, 12, 13, 14, 15, 16, 17, 18, 19], [19, 20])])
def impl_graphOf.B12 : List Nat := [0, 1, 3, 7, 0, 0, 32, 96, 224, 0, 992, 2016, 0, 0, 8192, 28672, 0, 126976, 258048, 524256, 1048575, 2097151]
theorem impl_graphOf.tab12 : rtab .any (opsOf Try.f68 12) = impl_graphOf.T12 := by kernel_rfl
theorem impl_graphOf.bits12 : waitsOk impl_graphOf.T12.2 impl_graphOf.B12 = true := by kernel_rfl
set_option maxHeartbeats 8000000 in
set_option maxRecDepth 100000 in
theorem impl_graphOf.calls (k : Nat) (a0_0 : Int) (a0_1 : Int) (A0_2 : Option Addr) (c0_2 : Nat) (l0_2 : List Int) (a1_0 : Int) (a1_1 : Int) (r1 : List Int) (r2 : List (List Int)) (r3 : Bool) (w : World) (hr0_2 : Kd.C (Kd.int .i64) w A0_2 l0_2.length l0_2) (hc0_2 : l0_2.length ≤ c0_2) (h : impl_graphOf.f k a0_0 a0_1 l0_2 a1_0 a1_1 = some (r1, r2, r3)) :
  Calls Try.prog 68 #[.agg #[.int .i64 a0_0, .int .i64 a0_1, .slice A0_2 l0_2.length c0_2], .agg #[.int .i64 a1_0, .int .i64 a1_1]] w fun e w' => ∃ v0_ v1_ : Value, ∃ pv_ : Value, e = .returned (.tuple #[pv_, .bool r3]) ∧ GPT r3 pv_ w w' #[.int .i64 a0_0, .int .i64 a0_1, .slice A0_2 l0_2.length c0_2, .int .i64 a1_0, .int .i64 a1_1, v0_, v1_] ∧ Kd.R (Kd.int .i64) 3 w' w.heap.size (fun _ => True) v0_ r1 ∧ Kd.S (Kd.slice 3 (Kd.int .i64)) 22 w' w.heap.size (fun k_ => some k_ ≠ (v0_ : Value).ownBlock) v1_ r2 ∧ Below w.heap.size w w' := by
 have hu30 := Try.underlying30
 have hu32 := Try.underlying32
 have hu78 := Try.underlying78
 have HR0_2 := Aside0.mk hr0_2
 have HC0_2 := Aside0.mk hc0_2
 clear hr0_2 hc0_2
 have HB := Aside0.mk (Below.refl w.heap.size w)
 have H : ((impl_IsBoard.f k a0_0 a0_1 l0_2).bind fun t226 => (if t226 = true then ((impl_IsLeaper.f a1_0 a1_1).bind fun t227 => (impl_graphOf.j0 k (!t227) a0_0 a0_1 l0_2 a1_0 a1_1)) else (impl_graphOf.j0 k true a0_0 a0_1 l0_2 a1_0 a1_1))) = some (r1, r2, r3) := h
 clear h
 have HC3 := Aside0.mk H
 clear H
 go_enter Try.func68, Try.ntmps68
 go_upto_region 1 with (first | ((with_reducible refine gate_dst (N := 2) rfl ?_); refine box_event ?hg (N := 2) ?hd (cs := #[.int .i64 a0_0, .int .i64 a0_1, .slice A0_2 l0_2.length c0_2]) (t := 30) ?hr ?_; (case hd => rfl); (case hg => rfl); (case hr => first | (go_simp; done) | (go_simp; rfl)); intro gb224 hg w4 hbox hb; have n0_ := Aside0.mk (below_step zg27 hb); have n1_ := Aside0.mk (hbox); have n2_ := Aside0.mk ((by rw [hg]; exact (below_size zg27) : w.heap.size ≤ gb224)); have n3_ := Aside0.mk ((by rw [hg]; exact (below_size zg27) : w.heap.size ≤ gb224)); clear HB; have HB := n0_; have BK224 := n1_; have GW224 := n2_; have GE224 := n3_; clear n0_ n1_ n2_ n3_; clear hb hbox hg) | ((with_reducible refine gate_dst (N := 3) rfl ?_); refine box_event ?hg (N := 3) ?hd (cs := #[.int .i64 a1_0, .int .i64 a1_1]) (t := 32) ?hr ?_; (case hd => rfl); (case hg => rfl); (case hr => first | (go_simp; done) | (go_simp; rfl)); intro gb225 hg w5 hbox hb; have n0_ := Aside0.mk (blk_below (g := gb224) (o := .cells #[.int .i64 a0_0, .int .i64 a0_1, .slice A0_2 l0_2.length c0_2] 30 (0, 0)) zg3 hb); have n1_ := Aside0.mk (below_step zg24 hb); have n2_ := Aside0.mk (hbox); have n3_ := Aside0.mk ((by rw [hg]; exact (below_size zg24) : w.heap.size ≤ gb225)); have n4_ := Aside0.mk ((by rw [hg]; exact (below_size zg24) : w.heap.size ≤ gb225)); have n5_ := Aside0.mk ((zg31 : gb224 ≠ gb225)); have n6_ := Aside0.mk ((zg32 : gb225 ≠ gb224)); clear BK224; clear HB; have BK224 := n0_; have HB := n1_; have BK225 := n2_; have GW225 := n3_; have GE225 := n4_; have NB224_225 := n5_; have NB225_224 := n6_; clear n0_ n1_ n2_ n3_ n4_ n5_ n6_; clear hb hbox hg))
 (try simp only [Act.put, List.setIfInBounds_toArray, List.set_cons_zero, List.set_cons_succ])
 go_cut [20] (fun v20 wc => ∃ (kq : Nat) (x20_2 : Bool), v20 = .bool x20_2 ∧ Aside0 (impl_graphOf.j0 kq x20_2 a0_0 a0_1 l0_2 a1_0 a1_1 = some (r1, r2, r3)) ∧ Aside0 (kq ≤ k) ∧ Aside0 (wc.heap[gb224]? = some (.cells #[.int .i64 a0_0, .int .i64 a0_1, (.slice A0_2 l0_2.length c0_2)] 30 (0, 0))) ∧ Aside0 (wc.heap[gb225]? = some (.cells #[.int .i64 a1_0, .int .i64 a1_1] 32 (0, 0))) ∧ Aside0 (Below w.heap.size w wc))
 case first =>
  have H := HC3.out
  clear HC3
  replace H := Option.bind_eq_some_iff.mp H
  obtain ⟨t226, A60, H⟩ := H
  replace H : (if t226 = true then ((impl_IsLeaper.f a1_0 a1_1).bind fun t227 => (impl_graphOf.j0 k (!t227) a0_0 a0_1 l0_2 a1_0 a1_1)) else (impl_graphOf.j0 k true a0_0 a0_1 l0_2 a1_0 a1_1)) = some (r1, r2, r3) := H
  have A6 := Aside0.mk A60
  clear A60
  by_cases c7 : t226 = true
  rotate_left
  ·replace c7 := Bool.eq_false_iff.mpr c7
   subst c7
   have H1 : (impl_graphOf.j0 k true a0_0 a0_1 l0_2 a1_0 a1_1) = some (r1, r2, r3) := by rw [if_neg (show ¬ (false = true) by decide)] at H; exact H
   clear H
   have H := H1
   clear H1
   have H' := Aside0.mk H
   clear H
   have hnb14 := NB224_225.out
   have hnc14 := NB225_224.out
   have hcz15_0 : w5.cell? ⟨gb224, 0, none⟩ = some (.int .i64 a0_0) := (blk_cell BK224.out 0).trans rfl
   have hcz15_1 : w5.cell? ⟨gb224, 1, none⟩ = some (.int .i64 a0_1) := (blk_cell BK224.out 1).trans rfl
   have hcz15_2 : w5.cell? ⟨gb224, 2, none⟩ = some (.slice A0_2 l0_2.length c0_2) := (blk_cell BK224.out 2).trans rfl
   have hfz15_0 := blk_frozen BK224.out 0
   have hfz15_1 := blk_frozen BK224.out 1
   have hfz15_2 := blk_frozen BK224.out 2
   go_wp2_with (first | ((with_reducible refine gate_callee (f := 25) rfl ?_); refine goesL_ (some 14) rfl rfl Try.func25 (by kernel_rfl) rfl #[.agg #[.int .i64 a0_0, .int .i64 a0_1, .slice A0_2 l0_2.length c0_2]] rfl zg16 ?_; (with_reducible refine (impl_IsBoard.calls k a0_0 a0_1 _ _ l0_2 false _ ?side1 ?side2 A6.out).mono ?_); (case side1 => exact zg9); (case side2 => exact HC0_2.out); rintro e w16 ⟨rfl, hb⟩; refine ⟨_, rfl, ?_⟩; have n0_ := Aside0.mk (blk_below (g := gb224) (o := .cells #[.int .i64 a0_0, .int .i64 a0_1, .slice A0_2 l0_2.length c0_2] 30 (0, 0)) zg3 hb); have n1_ := Aside0.mk (blk_below (g := gb225) (o := .cells #[.int .i64 a1_0, .int .i64 a1_1] 32 (0, 0)) zg6 hb); have n2_ := Aside0.mk (below_step zg2 hb); clear BK224; clear BK225; clear HB; have BK224 := n0_; have BK225 := n1_; have HB := n2_; clear n0_ n1_ n2_; (try clear hb); (try clear hb2); (try clear hk); (try clear hi); (try clear hna_); (try clear hnb_)))
   go_meet
   case rel => exact ⟨_, (true), zg22, H', ⟨by first | omega | exact Nat.le_refl _⟩, ⟨zg3⟩, ⟨zg6⟩, ⟨zg2⟩⟩
  subst c7
  have H1 : ((impl_IsLeaper.f a1_0 a1_1).bind fun t227 => (impl_graphOf.j0 k (!t227) a0_0 a0_1 l0_2 a1_0 a1_1)) = some (r1, r2, r3) := by rw [if_pos rfl] at H; exact H
  clear H
  have H := H1
  clear H1
  replace H := Option.bind_eq_some_iff.mp H
  obtain ⟨t227, A80, H⟩ := H
  replace H : (impl_graphOf.j0 k (!t227) a0_0 a0_1 l0_2 a1_0 a1_1) = some (r1, r2, r3) := H
  have A8 := Aside0.mk A80
  clear A80
  have H' := Aside0.mk H
  clear H
  have hnb9 := NB224_225.out
  have hnc9 := NB225_224.out
  have hcz10_0 : w5.cell? ⟨gb224, 0, none⟩ = some (.int .i64 a0_0) := (blk_cell BK224.out 0).trans rfl
  have hcz10_1 : w5.cell? ⟨gb224, 1, none⟩ = some (.int .i64 a0_1) := (blk_cell BK224.out 1).trans rfl
  have hcz10_2 : w5.cell? ⟨gb224, 2, none⟩ = some (.slice A0_2 l0_2.length c0_2) := (blk_cell BK224.out 2).trans rfl
  have hfz10_0 := blk_frozen BK224.out 0
  have hfz10_1 := blk_frozen BK224.out 1
  have hfz10_2 := blk_frozen BK224.out 2
  go_wp2_with (first | ((with_reducible refine gate_callee (f := 25) rfl ?_); refine goesL_ (some 14) rfl rfl Try.func25 (by kernel_rfl) rfl #[.agg #[.int .i64 a0_0, .int .i64 a0_1, .slice A0_2 l0_2.length c0_2]] rfl zg16 ?_; (with_reducible refine (impl_IsBoard.calls k a0_0 a0_1 _ _ l0_2 true _ ?side1 ?side2 A6.out).mono ?_); (case side1 => exact zg9); (case side2 => exact HC0_2.out); rintro e w11 ⟨rfl, hb⟩; refine ⟨_, rfl, ?_⟩; have n0_ := Aside0.mk (blk_below (g := gb224) (o := .cells #[.int .i64 a0_0, .int .i64 a0_1, .slice A0_2 l0_2.length c0_2] 30 (0, 0)) zg3 hb); have n1_ := Aside0.mk (blk_below (g := gb225) (o := .cells #[.int .i64 a1_0, .int .i64 a1_1] 32 (0, 0)) zg6 hb); have n2_ := Aside0.mk (below_step zg2 hb); clear BK224; clear BK225; clear HB; have BK224 := n0_; have BK225 := n1_; have HB := n2_; clear n0_ n1_ n2_; (try clear hb); (try clear hb2); (try clear hk); (try clear hi); (try clear hna_); (try clear hnb_); have hcz12_0 : w11.cell? ⟨gb225, 0, none⟩ = some (.int .i64 a1_0) := (blk_cell BK225.out 0).trans rfl; have hcz12_1 : w11.cell? ⟨gb225, 1, none⟩ = some (.int .i64 a1_1) := (blk_cell BK225.out 1).trans rfl; have hfz12_0 := blk_frozen BK225.out 0; have hfz12_1 := blk_frozen BK225.out 1) | (go_at_call 79; (with_reducible refine (impl_IsLeaper.calls a1_0 a1_1 t227 _ A8.out).mono ?_); rintro e w13 ⟨rfl, hb⟩; have n0_ := Aside0.mk (blk_below (g := gb224) (o := .cells #[.int .i64 a0_0, .int .i64 a0_1, .slice A0_2 l0_2.length c0_2] 30 (0, 0)) zg3 hb); have n1_ := Aside0.mk (blk_below (g := gb225) (o := .cells #[.int .i64 a1_0, .int .i64 a1_1] 32 (0, 0)) zg6 hb); have n2_ := Aside0.mk (below_step zg2 hb); clear BK224; clear BK225; clear HB; have BK224 := n0_; have BK225 := n1_; have HB := n2_; clear n0_ n1_ n2_; (try clear hb); (try clear hb2); (try clear hk); (try clear hi); (try clear hna_); (try clear hnb_)))
  go_meet
  case rel => exact ⟨_, (!t227), zg22, H', ⟨by first | omega | exact Nat.le_refl _⟩, ⟨zg3⟩, ⟨zg6⟩, ⟨zg2⟩⟩
 case rest =>
  clear HC3
  try clear c1; try clear c2; try clear p2; try clear c6; try clear c7; try clear c9; try clear c14; try clear hcz10_0; try clear hcz10_1; try clear hcz10_2; try clear hcz12_0; try clear hcz12_1; try clear hcz15_0; try clear hcz15_1; try clear hcz15_2; try clear hfz10_0; try clear hfz10_1; try clear hfz10_2; try clear hfz12_0; try clear hfz12_1; try clear hfz15_0; try clear hfz15_1; try clear hfz15_2
  obtain ⟨kq, x20_2, rfl, HA, HJ2, BK224, BK225, HB⟩ := hcut
  cases kq with
  | zero => exact absurd HA.out (by simp [impl_graphOf.j0])
  | succ kj2 =>
   have H := HA.out
   clear HA
   simp only [impl_graphOf.j0] at H
   by_cases c17 : x20_2 = true
   ·subst c17
    have H1 : (some (([] : List Int), ([] : List (List Int)), false)) = some (r1, r2, r3) := by rw [if_pos rfl] at H; exact H
    clear H
    have H := H1
    clear H1
    simp only [Option.some.injEq, Prod.mk.injEq] at H
    obtain ⟨rfl, rfl, rfl⟩ := H
    go_wp2
    go_ret2
    exact ⟨_, _, _, by first | rfl | (simp [errW_none, errW_some] <;> rfl) | (simp [*, errW_none, errW_some] <;> rfl), ⟨(fun h_ => by cases h_), fun _ => rfl⟩, by first | exact Kd.R_nil _ _ _ _ _ | exact Kd.N_nil _ _ _ _ _ | exact Kd.V_nil _ _ _ _ _ | exact Kd.Q_nil _ _ _ _ _ | exact Kd.S_nil _ _ _ _ _, by first | exact Kd.S_nil _ _ _ _ _ | exact Kd.N_nil _ _ _ _ _ | exact Kd.V_nil _ _ _ _ _ | exact Kd.Q_nil _ _ _ _ _ | exact Kd.R_nil _ _ _ _ _, zg2⟩
   replace c17 := Bool.eq_false_iff.mpr c17
   subst c17
   have H1 : ((impl_Board_present.f kj2 a0_0 a0_1 l0_2).bind fun t228 => (if 0 ≤ (wrap64 (a0_0 * a0_1)) then (if (wrap64 (a0_0 * a0_1) : Int).toNat ≤ 11728124029610 then (impl_graphOf.l0 kj2 t228 (t228.length : Int) 0 a0_0 a0_1 l0_2 a1_0 a1_1 a0_0 a0_1 l0_2 a1_0 a1_1 t228 (List.replicate (wrap64 (a0_0 * a0_1) : Int).toNat [])) else (none)) else (none))) = some (r1, r2, r3) := by rw [if_neg (show ¬ (false = true) by decide)] at H; exact H
   clear H
   have H := H1
   clear H1
   replace H := Option.bind_eq_some_iff.mp H
   obtain ⟨t228, A180, H⟩ := H
   replace H : (if 0 ≤ (wrap64 (a0_0 * a0_1)) then (if (wrap64 (a0_0 * a0_1) : Int).toNat ≤ 11728124029610 then (impl_graphOf.l0 kj2 t228 (t228.length : Int) 0 a0_0 a0_1 l0_2 a1_0 a1_1 a0_0 a0_1 l0_2 a1_0 a1_1 t228 (List.replicate (wrap64 (a0_0 * a0_1) : Int).toNat [])) else (none)) else (none)) = some (r1, r2, r3) := H
   have A18 := Aside0.mk A180
   clear A180
   obtain ⟨ji19, hji19⟩ : ∃ j_ : Int, (wrap64 (a0_0 * a0_1)) = j_ := ⟨_, rfl⟩
   replace H : (if 0 ≤ (ji19) then (if (ji19 : Int).toNat ≤ 11728124029610 then (impl_graphOf.l0 kj2 t228 (t228.length : Int) 0 a0_0 a0_1 l0_2 a1_0 a1_1 a0_0 a0_1 l0_2 a1_0 a1_1 t228 (List.replicate (ji19 : Int).toNat [])) else (none)) else (none)) = some (r1, r2, r3) := by first | (rw [hji19] at H; exact H) | (simp only [hji19] at H ⊢; exact H)
   (try rw [hji19] at A18)
   have hji19w : (IntKind.i64.wrap (a0_0 * a0_1)) = ji19 := (i64_w _).trans hji19
   by_cases c20 : 0 ≤ (ji19)
   rotate_left
   ·rw [if_neg c20] at H
    exact absurd H (by simp)
   rw [if_pos c20] at H
   have c20b0 := eq_true c20
   have c20b1 : decide (0 ≤ (ji19)) = true := decide_eq_true c20
   clear c20
   by_cases c21 : (ji19 : Int).toNat ≤ 11728124029610
   rotate_left
   ·rw [if_neg c21] at H
    exact absurd H (by simp)
   rw [if_pos c21] at H
   have c21b0 := eq_true c21
   have c21b1 : decide ((ji19 : Int).toNat ≤ 11728124029610) = true := decide_eq_true c21
   clear c21
   obtain ⟨y231, hy231⟩ : ∃ y_ : List (List Int), y_ = (List.replicate (ji19 : Int).toNat []) := ⟨_, rfl⟩
   replace H : (impl_graphOf.l0 kj2 t228 (t228.length : Int) 0 a0_0 a0_1 l0_2 a1_0 a1_1 a0_0 a0_1 l0_2 a1_0 a1_1 t228 y231) = some (r1, r2, r3) := by first | (rw [hy231]; with_reducible exact H) | (have H2_ := (Option.bind_some _ _).symm.trans H; rw [hy231]; with_reducible exact H2_) | (have H2_ := (Option.bind_some _ _).symm.trans H; with_reducible exact H2_) | with_reducible exact H | (rw [hy231]; exact H) | exact H
   have Ny231 := Aside0.mk hy231
   clear hy231
   have H' := Aside0.mk H
   clear H
   try go_wp2
   have n0_ := Aside0.mk (blk_drew BK224.out)
   have n1_ := Aside0.mk (blk_drew BK225.out)
   have n2_ := Aside0.mk (below_drew1 HB.out)
   clear BK224
   clear BK225
   clear HB
   have BK224 := n0_
   have BK225 := n1_
   have HB := n2_
   clear n0_ n1_ n2_
   refine start_ (n := 13) (S := fun w' => w'.cell? ⟨gb224, 0, none⟩ = some (.int .i64 a0_0) ∧ w'.cell? ⟨gb224, 1, none⟩ = some (.int .i64 a0_1) ∧ w'.cell? ⟨gb224, 2, none⟩ = some (.slice A0_2 l0_2.length c0_2) ∧ w'.cell? ⟨gb225, 0, none⟩ = some (.int .i64 a1_0) ∧ w'.cell? ⟨gb225, 1, none⟩ = some (.int .i64 a1_1)) (ds := []) #[false, false, false, false, false, false, false, false, false, false, false, false, false] (by kernel_rfl) rfl rfl ⟨(blk_cell BK224.out 0).trans rfl, (blk_cell BK224.out 1).trans rfl, (blk_cell BK224.out 2).trans rfl, (blk_cell BK225.out 0).trans rfl, (blk_cell BK225.out 1).trans rfl⟩ (fun hHeld => ?_); refine with_tabW impl_graphOf.tab3 impl_graphOf.bits3 (fun HT_ HW_ => ?_)
   generalize wc.drew = w22 at BK224 BK225 HB hHeld ⊢
   refine pure_ (i := 4) (N := some 25) (v := ?_) (a' := ?_) #[false, false, false, false, true, false, false, false, false, false, false, false, false] rfl rfl (any_of HT_.out (by kernel_rfl)) (fun _ _ _ h => h) (Or.inl ⟨by rfl, ?_⟩) ?_ ?_
   rotate_left
   ·intro w'
    go_simp
    with_reducible rfl
   rotate_left
   ·simp only [Act.put, List.setIfInBounds_toArray, List.set_cons_zero, List.set_cons_succ, i64_w, i32_w]
    rfl
   refine pure_ (i := 6) (N := some 27) (v := ?_) (a' := ?_) #[false, false, false, false, true, false, true, false, false, false, false, false, false] rfl rfl (any_of HT_.out (by kernel_rfl)) (fun _ _ _ h => h) (Or.inl ⟨by rfl, ?_⟩) ?_ ?_
   rotate_left
   ·intro w'
    go_simp
    with_reducible rfl
   rotate_left
   ·simp only [Act.put, List.setIfInBounds_toArray, List.set_cons_zero, List.set_cons_succ, i64_w, i32_w]
    rfl
   refine take_ (i := 0) (N := some 21) (v := ?_) (a' := ?_) #[true, false, false, false, true, false, true, false, false, false, false, false, false] rfl rfl (take_ofW HT_.out HW_.out (by kernel_rfl)) (fun _ _ _ h => h) (Or.inl ⟨by rfl, ?_⟩) hHeld ?_ ?_
   rotate_left
   ·rintro w' ⟨s0, s1, s2, s3, s4⟩
    go_simp
    with_reducible rfl
   rotate_left
   ·simp only [Act.put, List.setIfInBounds_toArray, List.set_cons_zero, List.set_cons_succ, i64_w, i32_w]
    rfl
   refine take_ (i := 1) (N := some 22) (v := ?_) (a' := ?_) #[true, true, false, false, true, false, true, false, false, false, false, false, false] rfl rfl (take_ofW HT_.out HW_.out (by kernel_rfl)) (fun _ _ _ h => h) (Or.inl ⟨by rfl, ?_⟩) hHeld ?_ ?_
   rotate_left
   ·rintro w' ⟨s0, s1, s2, s3, s4⟩
    go_simp
    with_reducible rfl
   rotate_left
   ·simp only [Act.put, List.setIfInBounds_toArray, List.set_cons_zero, List.set_cons_succ, i64_w, i32_w]
    rfl
   refine take_ (i := 2) (N := some 23) (v := ?_) (a' := ?_) #[true, true, true, false, true, false, true, false, false, false, false, false, false] rfl rfl (take_ofW HT_.out HW_.out (by kernel_rfl)) (fun _ _ _ h => h) (Or.inl ⟨by rfl, ?_⟩) hHeld ?_ ?_
   rotate_left
   ·rintro w' ⟨s0, s1, s2, s3, s4⟩
    go_simp
    with_reducible rfl
   rotate_left
   ·simp only [Act.put, List.setIfInBounds_toArray, List.set_cons_zero, List.set_cons_succ, i64_w, i32_w]
    rfl
   refine take_ (i := 5) (N := some 26) (v := ?_) (a' := ?_) #[true, true, true, false, true, true, true, false, false, false, false, false, false] rfl rfl (take_ofW HT_.out HW_.out (by kernel_rfl)) (fun _ _ _ h => h) (Or.inl ⟨by rfl, ?_⟩) hHeld ?_ ?_
   rotate_left
   ·rintro w' ⟨s0, s1, s2, s3, s4⟩
    go_simp
    with_reducible rfl
   rotate_left
   ·simp only [Act.put, List.setIfInBounds_toArray, List.set_cons_zero, List.set_cons_succ, i64_w, i32_w]
    rfl
   refine take_ (i := 7) (N := some 28) (v := ?_) (a' := ?_) #[true, true, true, false, true, true, true, true, false, false, false, false, false] rfl rfl (take_ofW HT_.out HW_.out (by kernel_rfl)) (fun _ _ _ h => h) (Or.inl ⟨by rfl, ?_⟩) hHeld ?_ ?_
   rotate_left
   ·rintro w' ⟨s0, s1, s2, s3, s4⟩
    go_simp
    with_reducible rfl
   rotate_left
   ·simp only [Act.put, List.setIfInBounds_toArray, List.set_cons_zero, List.set_cons_succ, i64_w, i32_w]
    rfl
   refine pure_ (i := 8) (N := some 29) (v := ?_) (a' := ?_) #[true, true, true, false, true, true, true, true, true, false, false, false, false] rfl rfl (any_of HT_.out (by kernel_rfl)) (fun _ _ _ h => h) (Or.inl ⟨by rfl, ?_⟩) ?_ ?_
   rotate_left
   ·intro w'
    go_simp
    with_reducible rfl
   rotate_left
   ·simp only [Act.put, List.setIfInBounds_toArray, List.set_cons_zero, List.set_cons_succ, i64_w, i32_w]
    rfl
   refine join_ (σ := Value × Value) 3 #[true, true, true, true, true, true, true, true, true, true, false, false, false] (fun s_ => [(24, s_.1), (30, s_.2)]) (fun s_ w' => (w'.cell? ⟨gb224, 0, none⟩ = some (.int .i64 a0_0) ∧ w'.cell? ⟨gb224, 1, none⟩ = some (.int .i64 a0_1) ∧ w'.cell? ⟨gb224, 2, none⟩ = some (.slice A0_2 l0_2.length c0_2) ∧ w'.cell? ⟨gb225, 0, none⟩ = some (.int .i64 a1_0) ∧ w'.cell? ⟨gb225, 1, none⟩ = some (.int .i64 a1_1)) ∧ (Kd.R (Kd.int .i64) 3 w' w.heap.size (fun _ => True) s_.1 t228) ∧ (Kd.S (Kd.slice 3 (Kd.int .i64)) 22 w' w.heap.size (fun k_ => some k_ ≠ (s_.1 : Value).ownBlock) s_.2 y231) ∧ (w'.heap[gb224]? = some (.cells #[.int .i64 a0_0, .int .i64 a0_1, .slice A0_2 l0_2.length c0_2] 30 (0, 0))) ∧ (w'.heap[gb225]? = some (.cells #[.int .i64 a1_0, .int .i64 a1_1] 32 (0, 0))) ∧ (Below w.heap.size w w')) ?_ ?_
   rotate_left
   ·intro hCont
    refine two_ (i := 3) (j := 9) (Ni := some 24) (Nj := some 30) #[true, true, true, true, true, true, true, true, true, false, false, false, false] #[true, true, true, false, true, true, true, true, true, true, false, false, false] rfl rfl rfl rfl (two_of HT_.out (by kernel_rfl)) (by decide) (by decide) (fun K hK => ?_) (fun K hK => ?_)
    ·skip
     refine goes_ Try.func54 (by kernel_rfl) rfl #[.agg #[.int .i64 a0_0, .int .i64 a0_1, .slice A0_2 l0_2.length c0_2]] (by rfl) rfl rfl zg16 ?_
     with_reducible refine (impl_Board_present.calls kj2 a0_0 a0_1 _ _ l0_2 t228 _ ?side1 ?side2 A18.out).mono ?_
     (case side1 => exact zg9)
     (case side2 => exact HC0_2.out)
     rintro e w23 ⟨v229, rfl, ho0, hb⟩
     refine ⟨_, rfl, ?_⟩
     have n0_ := Aside0.mk (Kd.R_lower ho0 (below_size zg2))
     have n1_ := Aside0.mk (blk_below (g := gb224) (o := .cells #[.int .i64 a0_0, .int .i64 a0_1, .slice A0_2 l0_2.length c0_2] 30 (0, 0)) zg3 hb)
     have n2_ := Aside0.mk (blk_below (g := gb225) (o := .cells #[.int .i64 a1_0, .int .i64 a1_1] 32 (0, 0)) zg6 hb)
     have n3_ := Aside0.mk (below_step zg2 hb)
     clear BK224
     clear BK225
     clear HB
     have HO230 := n0_
     have BK224 := n1_
     have BK225 := n2_
     have HB := n3_
     clear n0_ n1_ n2_ n3_
     (try clear hb)
     (try clear hb2)
     (try clear hk)
     (try clear hi)
     (try clear ho0)
     (try clear hna_)
     (try clear hnb_)
     refine hK.out _ _ ⟨(blk_cell BK224.out 0).trans rfl, (blk_cell BK224.out 1).trans rfl, (blk_cell BK224.out 2).trans rfl, (blk_cell BK225.out 0).trans rfl, (blk_cell BK225.out 1).trans rfl⟩ (fun hHeld => ?_)
     clear hK K
     refine norm_ (a' := ?_) ?_ ?_
     rotate_left
     ·show Act.put _ (some 24) _ = _
      simp only [Act.put, List.setIfInBounds_toArray, List.set_cons_zero, List.set_cons_succ, i64_w, i32_w]
      rfl
     refine one_ (i := 9) (N := some 30) #[true, true, true, true, true, true, true, true, true, true, false, false, false] rfl rfl (one_of HT_.out (by kernel_rfl)) (by decide) (fun K hK => ?_)
     refine Kd.S_make_step (Kd.slice 3 (Kd.int .i64)) _ 22 (by rfl) (N := 30) rfl 76 _ _ rfl ji19 rfl rfl Try.underlying76 (.slice none 0 0) 24 info22 rfl (by decide) (by omega) [] (ok := fun _ => True) (okp := fun _ => True) ⟨_, rfl, Kd.R_nil _ _ _ _ _⟩ (fun _ hk => hk) trivial (of_decide_eq_true zg5) (Nat.le_trans (Nat.mul_le_mul_right _ (of_decide_eq_true zg5 : ji19.toNat ≤ 11728124029610)) (by omega)) (Below.refl _ _) (Nat.le_refl _) ?_
     intro v232 w24 ho25 hb hg_ hnew_
     clear hg_ hnew_
     (first | rw [← Ny231.out] at ho25 | (simp only [Int.reduceToNat] at ho25; rw [← Ny231.out] at ho25))
     have n0_ := Aside0.mk (Kd.R_below zg19 hb)
     have n1_ := Aside0.mk (Kd.S_lower (Kd.S_new' ho25 (Kd.R_lt zg19)) (below_size zg2))
     have n2_ := Aside0.mk (blk_below (g := gb224) (o := .cells #[.int .i64 a0_0, .int .i64 a0_1, .slice A0_2 l0_2.length c0_2] 30 (0, 0)) zg3 hb)
     have n3_ := Aside0.mk (blk_below (g := gb225) (o := .cells #[.int .i64 a1_0, .int .i64 a1_1] 32 (0, 0)) zg6 hb)
     have n4_ := Aside0.mk (below_step zg2 hb)
     clear HO230
     clear BK224
     clear BK225
     clear HB
     have HO230 := n0_
     have HO233 := n1_
     have BK224 := n2_
     have BK225 := n3_
     have HB := n4_
     clear n0_ n1_ n2_ n3_ n4_
     clear hb ho25
     obtain ⟨Ao26, co26, eo26⟩ := Kd.S_slice HO233.out
     (first | subst eo26 | (injection eo26 with f1_ f2_ f3_; have f4_ := f1_.symm; have f5_ := f3_.symm; clear f1_ f2_ f3_; subst f4_; subst f5_))
     obtain ⟨Ao27, co27, eo27⟩ := Kd.R_slice HO230.out
     (first | subst eo27 | (injection eo27 with f1_ f2_ f3_; have f4_ := f1_.symm; have f5_ := f3_.symm; clear f1_ f2_ f3_; subst f4_; subst f5_))
     refine hK.out _ _ ⟨(blk_cell BK224.out 0).trans rfl, (blk_cell BK224.out 1).trans rfl, (blk_cell BK224.out 2).trans rfl, (blk_cell BK225.out 0).trans rfl, (blk_cell BK225.out 1).trans rfl⟩ (fun hHeld => ?_)
     clear hK K
     refine norm_ (a' := ?_) ?_ ?_
     rotate_left
     ·show Act.put _ (some 30) _ = _
      simp only [Act.put, List.setIfInBounds_toArray, List.set_cons_zero, List.set_cons_succ, i64_w, i32_w]
      rfl
     exact norm_ (by simp only [putAll, Act.put, List.setIfInBounds_toArray, List.set_cons_zero, List.set_cons_succ]) (hCont (.slice Ao27 t228.length co27, .slice Ao26 y231.length co26) _ ⟨hHeld, zg19, zg29, zg3, zg6, zg2⟩)
    skip
    refine Kd.S_make_step (Kd.slice 3 (Kd.int .i64)) _ 22 (by rfl) (N := 30) rfl 76 _ _ rfl ji19 rfl rfl Try.underlying76 (.slice none 0 0) 24 info22 rfl (by decide) (by omega) [] (ok := fun _ => True) (okp := fun _ => True) ⟨_, rfl, Kd.R_nil _ _ _ _ _⟩ (fun _ hk => hk) trivial (of_decide_eq_true zg5) (Nat.le_trans (Nat.mul_le_mul_right _ (of_decide_eq_true zg5 : ji19.toNat ≤ 11728124029610)) (by omega)) (Below.refl _ _) (Nat.le_refl _) ?_
    intro v232 w23 ho24 hb hg_ hnew_
    clear hg_ hnew_
    (first | rw [← Ny231.out] at ho24 | (simp only [Int.reduceToNat] at ho24; rw [← Ny231.out] at ho24))
    have n0_ := Aside0.mk (Kd.S_lower ho24 (below_size zg2))
    have n1_ := Aside0.mk (blk_below (g := gb224) (o := .cells #[.int .i64 a0_0, .int .i64 a0_1, .slice A0_2 l0_2.length c0_2] 30 (0, 0)) zg3 hb)
    have n2_ := Aside0.mk (blk_below (g := gb225) (o := .cells #[.int .i64 a1_0, .int .i64 a1_1] 32 (0, 0)) zg6 hb)
    have n3_ := Aside0.mk (below_step zg2 hb)
    clear BK224
    clear BK225
    clear HB
    have HO233 := n0_
    have BK224 := n1_
    have BK225 := n2_
    have HB := n3_
    clear n0_ n1_ n2_ n3_
    clear hb ho24
    refine hK.out _ _ ⟨(blk_cell BK224.out 0).trans rfl, (blk_cell BK224.out 1).trans rfl, (blk_cell BK224.out 2).trans rfl, (blk_cell BK225.out 0).trans rfl, (blk_cell BK225.out 1).trans rfl⟩ (fun hHeld => ?_)
    clear hK K
    refine norm_ (a' := ?_) ?_ ?_
    rotate_left
    ·show Act.put _ (some 30) _ = _
     simp only [Act.put, List.setIfInBounds_toArray, List.set_cons_zero, List.set_cons_succ, i64_w, i32_w]
     rfl
    refine one_ (i := 3) (N := some 24) #[true, true, true, true, true, true, true, true, true, true, false, false, false] rfl rfl (one_of HT_.out (by kernel_rfl)) (by decide) (fun K hK => ?_)
    refine goes_ Try.func54 (by kernel_rfl) rfl #[.agg #[.int .i64 a0_0, .int .i64 a0_1, .slice A0_2 l0_2.length c0_2]] (by rfl) rfl rfl zg16 ?_
    with_reducible refine (impl_Board_present.calls kj2 a0_0 a0_1 _ _ l0_2 t228 _ ?side1 ?side2 A18.out).mono ?_
    (case side1 => exact zg9)
    (case side2 => exact HC0_2.out)
    rintro e w25 ⟨v229, rfl, ho0, hb⟩
    refine ⟨_, rfl, ?_⟩
    have n0_ := Aside0.mk (Kd.S_elder' (by first | exact HO233.out | ((with_reducible repeat (first | apply Kd.S_alloc | apply Kd.S_drewN | apply Kd.S_drew)); exact HO233.out)) (Kd.R_base ho0) hb)
    have n1_ := Aside0.mk (Kd.R_lower ho0 (below_size zg2))
    have n2_ := Aside0.mk (blk_below (g := gb224) (o := .cells #[.int .i64 a0_0, .int .i64 a0_1, .slice A0_2 l0_2.length c0_2] 30 (0, 0)) zg3 hb)
    have n3_ := Aside0.mk (blk_below (g := gb225) (o := .cells #[.int .i64 a1_0, .int .i64 a1_1] 32 (0, 0)) zg6 hb)
    have n4_ := Aside0.mk (below_step zg2 hb)
    clear HO233
    clear BK224
    clear BK225
    clear HB
    have HO233 := n0_
    have HO230 := n1_
    have BK224 := n2_
    have BK225 := n3_
    have HB := n4_
    clear n0_ n1_ n2_ n3_ n4_
    (try clear hb)
    (try clear hb2)
    (try clear hk)
    (try clear hi)
    (try clear ho0)
    (try clear hna_)
    (try clear hnb_)
    obtain ⟨Ao26, co26, eo26⟩ := Kd.S_slice HO233.out
    (first | subst eo26 | (injection eo26 with f1_ f2_ f3_; have f4_ := f1_.symm; have f5_ := f3_.symm; clear f1_ f2_ f3_; subst f4_; subst f5_))
    obtain ⟨Ao27, co27, eo27⟩ := Kd.R_slice HO230.out
    (first | subst eo27 | (injection eo27 with f1_ f2_ f3_; have f4_ := f1_.symm; have f5_ := f3_.symm; clear f1_ f2_ f3_; subst f4_; subst f5_))
    refine hK.out _ _ ⟨(blk_cell BK224.out 0).trans rfl, (blk_cell BK224.out 1).trans rfl, (blk_cell BK224.out 2).trans rfl, (blk_cell BK225.out 0).trans rfl, (blk_cell BK225.out 1).trans rfl⟩ (fun hHeld => ?_)
    clear hK K
    refine norm_ (a' := ?_) ?_ ?_
    rotate_left
    ·show Act.put _ (some 24) _ = _
     simp only [Act.put, List.setIfInBounds_toArray, List.set_cons_zero, List.set_cons_succ, i64_w, i32_w]
     rfl
    exact norm_ (by simp only [putAll, Act.put, List.setIfInBounds_toArray, List.set_cons_zero, List.set_cons_succ]) (hCont (.slice Ao27 t228.length co27, .slice Ao26 y231.length co26) _ ⟨hHeld, zg19, zg29, zg3, zg6, zg2⟩)
   rintro ⟨v229, v232⟩ w28 ⟨hS_, h0_, h1_, h2_, h3_, h4_⟩
   have n0_ : Aside0 (Kd.R (Kd.int .i64) 3 w28 w.heap.size (fun _ => True) v229 t228) := ⟨h0_⟩
   have n1_ : Aside0 (Kd.S (Kd.slice 3 (Kd.int .i64)) 22 w28 w.heap.size (fun k_ => some k_ ≠ (v229 : Value).ownBlock) v232 y231) := ⟨h1_⟩
   have n2_ : Aside0 (w28.heap[gb224]? = some (.cells #[.int .i64 a0_0, .int .i64 a0_1, .slice A0_2 l0_2.length c0_2] 30 (0, 0))) := ⟨h2_⟩
   have n3_ : Aside0 (w28.heap[gb225]? = some (.cells #[.int .i64 a1_0, .int .i64 a1_1] 32 (0, 0))) := ⟨h3_⟩
   have n4_ : Aside0 (Below w.heap.size w w28) := ⟨h4_⟩
   clear BK224
   clear BK225
   clear HB
   clear h0_ h1_ h2_ h3_ h4_
   have HO230 := n0_
   have HO233 := n1_
   have BK224 := n2_
   have BK225 := n3_
   have HB := n4_
   clear n0_ n1_ n2_ n3_ n4_
   have hHeld : w28.cell? ⟨gb224, 0, none⟩ = some (.int .i64 a0_0) ∧ w28.cell? ⟨gb224, 1, none⟩ = some (.int .i64 a0_1) ∧ w28.cell? ⟨gb224, 2, none⟩ = some (.slice A0_2 l0_2.length c0_2) ∧ w28.cell? ⟨gb225, 0, none⟩ = some (.int .i64 a1_0) ∧ w28.cell? ⟨gb225, 1, none⟩ = some (.int .i64 a1_1) := hS_
   obtain ⟨Ao29, co29, eo29⟩ := Kd.S_slice HO233.out
   (first | subst eo29 | (injection eo29 with f1_ f2_ f3_; have f4_ := f1_.symm; have f5_ := f3_.symm; clear f1_ f2_ f3_; subst f4_; subst f5_))
   obtain ⟨Ao30, co30, eo30⟩ := Kd.R_slice HO230.out
   (first | subst eo30 | (injection eo30 with f1_ f2_ f3_; have f4_ := f1_.symm; have f5_ := f3_.symm; clear f1_ f2_ f3_; subst f4_; subst f5_))
   refine norm_ (a' := ?_) ?_ ?_
   rotate_left
   ·simp only [putAll, Act.put, List.setIfInBounds_toArray, List.set_cons_zero, List.set_cons_succ]
    rfl
   refine pure_ (i := 10) (N := some 31) (v := ?_) (a' := ?_) #[true, true, true, true, true, true, true, true, true, true, true, false, false] rfl rfl (any_of HT_.out (by kernel_rfl)) (fun _ _ _ h => h) (Or.inl ⟨by rfl, ?_⟩) ?_ ?_
   rotate_left
   ·intro w'
    go_simp
    with_reducible rfl
   rotate_left
   ·simp only [Act.put, List.setIfInBounds_toArray, List.set_cons_zero, List.set_cons_succ, i64_w, i32_w]
    rfl
   refine one_ (i := 11) (N := some 32) #[true, true, true, true, true, true, true, true, true, true, true, true, false] rfl rfl (one_of HT_.out (by kernel_rfl)) (by decide) (fun K hK => ?_)
   refine box_step ?hg (N := 32) ?hd (cs := #[.int .i64 a0_0, .int .i64 a0_1, .slice A0_2 l0_2.length c0_2, .int .i64 a1_0, .int .i64 a1_1, .slice Ao30 t228.length co30, .slice Ao29 y231.length co29]) (t := 78) ?hr ?_; (case hd => rfl); (case hg => rfl); (case hr => first | (go_simp; done) | (go_simp; rfl))
   intro gb234 hg w31 hbox hb
   have n0_ := Aside0.mk (Kd.R_below zg19 hb)
   have n1_ := Aside0.mk (Kd.S_below (by first | exact HO233.out | ((with_reducible repeat (first | apply Kd.S_alloc | apply Kd.S_drewN | apply Kd.S_drew)); exact HO233.out)) hb)
   have n2_ := Aside0.mk (blk_below (g := gb224) (o := .cells #[.int .i64 a0_0, .int .i64 a0_1, .slice A0_2 l0_2.length c0_2] 30 (0, 0)) zg3 hb)
   have n3_ := Aside0.mk (blk_below (g := gb225) (o := .cells #[.int .i64 a1_0, .int .i64 a1_1] 32 (0, 0)) zg6 hb)
   have n4_ := Aside0.mk (below_step zg2 hb)
   have n5_ := Aside0.mk (hbox)
   have n6_ := Aside0.mk ((by rw [hg]; exact (below_size zg2) : w.heap.size ≤ gb234))
   have n7_ := Aside0.mk ((by rw [hg]; exact (below_size zg2) : w.heap.size ≤ gb234))
   have n8_ := Aside0.mk ((zg31 : gb224 ≠ gb234))
   have n9_ := Aside0.mk ((zg32 : gb234 ≠ gb224))
   have n10_ := Aside0.mk ((by rw [hg]; exact Nat.ne_of_lt (blk_lt (g := gb225) (o := .cells #[.int .i64 a1_0, .int .i64 a1_1] 32 (0, 0)) zg6) : gb225 ≠ gb234))
   have n11_ := Aside0.mk ((by rw [hg]; exact Nat.ne_of_gt (blk_lt (g := gb225) (o := .cells #[.int .i64 a1_0, .int .i64 a1_1] 32 (0, 0)) zg6) : gb234 ≠ gb225))
   clear HO230
   clear HO233
   clear BK224
   clear BK225
   clear HB
   have HO230 := n0_
   have HO233 := n1_
   have BK224 := n2_
   have BK225 := n3_
   have HB := n4_
   have BK234 := n5_
   have GW234 := n6_
   have GE234 := n7_
   have NB224_234 := n8_
   have NB234_224 := n9_
   have NB225_234 := n10_
   have NB234_225 := n11_
   clear n0_ n1_ n2_ n3_ n4_ n5_ n6_ n7_ n8_ n9_ n10_ n11_
   clear hb hbox hg
   refine hK.out _ _ ⟨(blk_cell BK224.out 0).trans rfl, (blk_cell BK224.out 1).trans rfl, (blk_cell BK224.out 2).trans rfl, (blk_cell BK225.out 0).trans rfl, (blk_cell BK225.out 1).trans rfl⟩ (fun hHeld => ?_)
   clear hK K
   refine norm_ (a' := ?_) ?_ ?_
   rotate_left
   ·show Act.put _ (some 32) _ = _
    simp only [Act.put, List.setIfInBounds_toArray, List.set_cons_zero, List.set_cons_succ, i64_w, i32_w]
    rfl
   refine pure_ (i := 12) (N := some 6) (v := ?_) (a' := ?_) #[true, true, true, true, true, true, true, true, true, true, true, true, true] rfl rfl (any_of HT_.out (by kernel_rfl)) (fun _ _ _ h => h) (Or.inl ⟨by rfl, ?_⟩) ?_ ?_
   rotate_left
   ·intro w'
    go_simp
    with_reducible rfl
   rotate_left
   ·simp only [Act.put, List.setIfInBounds_toArray, List.set_cons_zero, List.set_cons_succ, i64_w, i32_w]
    rfl
   refine done_ (done_of HT_.out (by kernel_rfl)) ?_
   have hnb32 := NB234_224.out
   have hnc32 := NB224_234.out
   have hnb33 := NB234_225.out
   have hnc33 := NB225_234.out
   have hcz34_0 : w31.cell? ⟨gb234, 0, none⟩ = some (.int .i64 a0_0) := (blk_cell BK234.out 0).trans rfl
   have hcz34_1 : w31.cell? ⟨gb234, 1, none⟩ = some (.int .i64 a0_1) := (blk_cell BK234.out 1).trans rfl
   have hcz34_2 : w31.cell? ⟨gb234, 2, none⟩ = some (.slice A0_2 l0_2.length c0_2) := (blk_cell BK234.out 2).trans rfl
   have hcz34_3 : w31.cell? ⟨gb234, 3, none⟩ = some (.int .i64 a1_0) := (blk_cell BK234.out 3).trans rfl
   have hcz34_4 : w31.cell? ⟨gb234, 4, none⟩ = some (.int .i64 a1_1) := (blk_cell BK234.out 4).trans rfl
   have hcz34_5 : w31.cell? ⟨gb234, 5, none⟩ = some (.slice Ao30 t228.length co30) := (blk_cell BK234.out 5).trans rfl
   have hcz34_6 : w31.cell? ⟨gb234, 6, none⟩ = some (.slice Ao29 y231.length co29) := (blk_cell BK234.out 6).trans rfl
   have hfz34_0 := blk_frozen BK234.out 0
   have hfz34_1 := blk_frozen BK234.out 1
   have hfz34_2 := blk_frozen BK234.out 2
   have hfz34_3 := blk_frozen BK234.out 3
   have hfz34_4 := blk_frozen BK234.out 4
   have hfz34_5 := blk_frozen BK234.out 5
   have hfz34_6 := blk_frozen BK234.out 6
   try go_wp2
   go_loopg [38] kj2 (fun kq v38 w' => ∃ (x38_2 : Int) (x235006_2 : List (List Int)) (u235006 : Value), v38 = .int .i64 x38_2 ∧ Aside0 (impl_graphOf.l0 kq t228 (t228.length : Int) x38_2 a0_0 a0_1 l0_2 a1_0 a1_1 a0_0 a0_1 l0_2 a1_0 a1_1 t228 x235006_2 = some (r1, r2, r3)) ∧ Aside0 (kq ≤ kj2) ∧ Aside0 (Kd.R (Kd.int .i64) 3 w' w.heap.size (fun _ => True) (.slice Ao30 t228.length co30) t228) ∧ Aside0 (Kd.R (Kd.int .i64) 3 w' w.heap.size (fun _ => True) (.slice Ao30 t228.length co30) t228) ∧ Aside0 (Kd.S (Kd.slice 3 (Kd.int .i64)) 22 w' w.heap.size (fun k_ => some k_ ≠ ((.slice Ao30 t228.length co30) : Value).ownBlock ∧ some k_ ≠ ((.slice Ao30 t228.length co30) : Value).ownBlock) u235006 x235006_2) ∧ Aside0 (w'.heap[gb224]? = some (.cells #[.int .i64 a0_0, .int .i64 a0_1, (.slice A0_2 l0_2.length c0_2)] 30 (0, 0))) ∧ Aside0 (w'.heap[gb225]? = some (.cells #[.int .i64 a1_0, .int .i64 a1_1] 32 (0, 0))) ∧ Aside0 (w'.heap[gb234]? = some (.cells #[.int .i64 a0_0, .int .i64 a0_1, (.slice A0_2 l0_2.length c0_2), .int .i64 a1_0, .int .i64 a1_1, (.slice Ao30 t228.length co30), u235006] 78 (0, 0))) ∧ Aside0 (Below w.heap.size w w'))
   case atStart => exact ⟨(0), (y231), (.slice Ao29 y231.length co29), zg22, H', ⟨Nat.le_refl _⟩, ⟨zg19⟩, ⟨zg19⟩, ⟨by (with_reducible repeat (first | apply Kd.S_alloc | apply Kd.S_drewN | apply Kd.S_drew)); exact Kd.S_mono HO233.out (fun _ hk => ⟨hk, hk⟩)⟩, ⟨zg3⟩, ⟨zg6⟩, ⟨zg11⟩, ⟨zg1⟩⟩
   case round =>
    clear H'
    try clear c1; try clear c2; try clear p2; try clear c3; try clear c5; try clear c6; try clear p6; try clear c7; try clear c9; try clear c14; try clear c17; try clear c20; try clear c20b0; try clear c20b1; try clear c21; try clear c21b0; try clear c21b1; try clear c25; try clear c32; try clear c33; try clear hcz10_0; try clear hcz10_1; try clear hcz10_2; try clear hcz12_0; try clear hcz12_1; try clear hcz15_0; try clear hcz15_1; try clear hcz15_2; try clear hcz34_0; try clear hcz34_1; try clear hcz34_2; try clear hcz34_3; try clear hcz34_4; try clear hcz34_5; try clear hcz34_6; try clear hfz10_0
    try clear hfz10_1; try clear hfz10_2; try clear hfz12_0; try clear hfz12_1; try clear hfz15_0; try clear hfz15_1; try clear hfz15_2; try clear hfz34_0; try clear hfz34_1; try clear hfz34_2; try clear hfz34_3; try clear hfz34_4; try clear hfz34_5; try clear hfz34_6; try clear p2
    obtain ⟨x38_2, x235006_2, u235006, rfl, HA, HK2, HO_36, HO_235005, HO_235006, BK224, BK225, BK234, HB⟩ := hrel
    cases gk with
    | zero => exact absurd HA.out (by simp [impl_graphOf.l0])
    | succ k2 =>
     have H := HA.out
     clear HA
     simp only [impl_graphOf.l0] at H
     by_cases c35 : x38_2 < (t228.length : Int)
     rotate_left
     ·rw [if_neg c35] at H
      have c35b0 : decide (x38_2 < (t228.length : Int)) = false := decide_eq_false c35
      clear c35
      simp only [Option.some.injEq, Prod.mk.injEq] at H
      obtain ⟨rfl, rfl, rfl⟩ := H
      go_wp2
      go_ret2
      exact ⟨_, _, _, by first | rfl | (simp [errW_none, errW_some] <;> rfl) | (simp only [← hji19]; first | rfl | (simp [errW_none, errW_some] <;> rfl)) | (simp [*, errW_none, errW_some] <;> rfl), ⟨fun _ => ⟨_, rfl, zg11, GW234.out⟩, (fun h_ => by cases h_)⟩, zg8, by (with_reducible repeat (first | apply Kd.S_alloc | apply Kd.S_drewN | apply Kd.S_drew)); exact Kd.S_mono HO_235006.out (fun _ hk => hk.2), zg1⟩
     rw [if_pos c35] at H
     have c35b0 : decide (x38_2 < (t228.length : Int)) = true := decide_eq_true c35
     clear c35
     by_cases c36 : 0 ≤ x38_2
     rotate_left
     ·rw [if_neg c36] at H
      exact absurd H (by simp)
     rw [if_pos c36] at H
     have c36b0 : decide (0 ≤ x38_2) = true := decide_eq_true c36
     clear c36
     by_cases c37 : x38_2 < (t228.length : Int)
     rotate_left
     ·rw [if_neg c37] at H
      exact absurd H (by simp)
     rw [if_pos c37] at H
     have c37b0 : decide (x38_2 < (t228.length : Int)) = true := decide_eq_true c37
     clear c37
     replace H := Option.bind_eq_some_iff.mp H
     obtain ⟨t236, A380, H⟩ := H
     replace H : (impl_graphOf.l1 k2 (rd t228 x38_2) t228 (t228.length : Int) x38_2 t236 (t236.length : Int) 0 a0_0 a0_1 l0_2 a1_0 a1_1 a0_0 a0_1 l0_2 a1_0 a1_1 t228 x235006_2) = some (r1, r2, r3) := H
     have A38 := Aside0.mk A380
     clear A380
     have H' := Aside0.mk H
     clear H
     have p235 : 0 ≤ (x38_2 : Int) := of_decide_eq_true zg5
     have q235 : x38_2 < (t228.length : Int) := of_decide_eq_true zg5
     obtain ⟨ad235, e235, hx235_0⟩ := Kd.at_int (Kd.R_reads' HO_36.out).2.2 x38_2 p235 q235
     cases e235
     replace p235 := eq_true p235
     replace q235 := eq_true q235
     have hnb39 := NB225_224.out
     have hnc39 := NB224_225.out
     have hnb40 := NB225_234.out
     have hnc40 := NB234_225.out
     have hcz41_0 : wr.cell? ⟨gb225, 0, none⟩ = some (.int .i64 a1_0) := (blk_cell BK225.out 0).trans rfl
     have hcz41_1 : wr.cell? ⟨gb225, 1, none⟩ = some (.int .i64 a1_1) := (blk_cell BK225.out 1).trans rfl
     have hfz41_0 := blk_frozen BK225.out 0
     have hfz41_1 := blk_frozen BK225.out 1
     go_wp2_with (first | ((with_reducible refine gate_callee (f := 80) rfl ?_); refine goesL_ (some 43) rfl rfl Try.func80 (by kernel_rfl) rfl #[.agg #[.int .i64 a1_0, .int .i64 a1_1]] rfl zg16 ?_; (with_reducible refine (impl_Leaper_steps.calls k2 a1_0 a1_1 t236 _ A38.out).mono ?_); rintro e w42 ⟨v237, rfl, ho0, hb⟩; refine ⟨_, rfl, ?_⟩; obtain ⟨na252_, nb252_, hna_, hnb_⟩ := rng_of hb; replace ho0 := rng_new ho0 hna_ hnb_; have n0_ := Aside0.mk (Kd.R_below zg12 hb); have n1_ := Aside0.mk (Kd.R_below zg8 hb); have n2_ := Aside0.mk (Kd.S_elder' (Kd.S_mono (Kd.S_bound zg26) (fun k_ hk_ => (⟨hk_.1, rng_lt hna_ hk_.2.2.1⟩ : _ ∧ k_ ≠ (rngIn na252_ nb252_ k_)))) (Kd.S_base ho0) hb); have n3_ := Aside0.mk (Kd.S_lower (Kd.S_new' (Kd.S_new' (Kd.S_new' ho0 (Kd.R_lt zg12)) (Kd.R_lt zg8)) (Kd.S_lt zg26)) (below_size zg1)); have n4_ := Aside0.mk (blk_below (g := gb224) (o := .cells #[.int .i64 a0_0, .int .i64 a0_1, .slice A0_2 l0_2.length c0_2] 30 (0, 0)) zg3 hb); have n5_ := Aside0.mk (blk_below (g := gb225) (o := .cells #[.int .i64 a1_0, .int .i64 a1_1] 32 (0, 0)) zg6 hb); have n6_ := Aside0.mk (blk_below (g := gb234) (o := .cells #[.int .i64 a0_0, .int .i64 a0_1, .slice A0_2 l0_2.length c0_2, .int .i64 a1_0, .int .i64 a1_1, .slice (some ad235) t228.length co30, u235006] 78 (0, 0)) zg11 hb); have n7_ := Aside0.mk ((Nat.le_of_eq hnb_.symm : nb252_ ≤ w42.heap.size)); have n8_ := Aside0.mk (below_step zg1 hb); clear HO_36; clear HO_235005; clear HO_235006; clear BK224; clear BK225; clear BK234; clear HB; have HO_36 := n0_; have HO_235005 := n1_; have HO_235006 := n2_; have HO238 := n3_; have BK224 := n4_; have BK225 := n5_; have BK234 := n6_; have HNB252 := n7_; have HB := n8_; clear n0_ n1_ n2_ n3_ n4_ n5_ n6_ n7_ n8_; (try clear hb); (try clear hb2); (try clear hk); (try clear hi); (try clear ho0); (try clear hna_); (try clear hnb_); obtain ⟨Ao43, co43, eo43⟩ := Kd.S_slice HO238.out; subst eo43))
     go_loopg [45] k2 (fun kq v45 w' => ∃ (x43_3 : List (List Int)) (x45_3 : Int) (x235006_3 : List (List Int)) (u235006 : Value), v45 = .int .i64 x45_3 ∧ Aside0 (impl_graphOf.l1 kq (rd t228 x38_2) t228 (t228.length : Int) x38_2 x43_3 (t236.length : Int) x45_3 a0_0 a0_1 l0_2 a1_0 a1_1 a0_0 a0_1 l0_2 a1_0 a1_1 t228 x235006_3 = some (r1, r2, r3)) ∧ Aside0 (kq ≤ k2) ∧ Aside0 (Kd.R (Kd.int .i64) 3 w' w.heap.size (fun _ => True) (.slice (some ad235) t228.length co30) t228) ∧ Aside0 (Kd.S (Kd.slice 3 (Kd.int .i64)) 22 w' w.heap.size (fun k_ => some k_ ≠ ((.slice (some ad235) t228.length co30) : Value).ownBlock ∧ some k_ ≠ ((.slice (some ad235) t228.length co30) : Value).ownBlock ∧ some k_ ≠ (u235006 : Value).ownBlock ∧ k_ ≠ (rngOut na252_ nb252_ k_)) (.slice Ao43 t236.length co43) x43_3) ∧ Aside0 (Kd.R (Kd.int .i64) 3 w' w.heap.size (fun _ => True) (.slice (some ad235) t228.length co30) t228) ∧ Aside0 (Kd.S (Kd.slice 3 (Kd.int .i64)) 22 w' w.heap.size (fun k_ => some k_ ≠ ((.slice (some ad235) t228.length co30) : Value).ownBlock ∧ some k_ ≠ ((.slice Ao43 t236.length co43) : Value).ownBlock ∧ some k_ ≠ ((.slice (some ad235) t228.length co30) : Value).ownBlock ∧ k_ ≠ (rngIn na252_ nb252_ k_)) u235006 x235006_3) ∧ Aside0 (w'.heap[gb224]? = some (.cells #[.int .i64 a0_0, .int .i64 a0_1, (.slice A0_2 l0_2.length c0_2)] 30 (0, 0))) ∧ Aside0 (w'.heap[gb225]? = some (.cells #[.int .i64 a1_0, .int .i64 a1_1] 32 (0, 0))) ∧ Aside0 (w'.heap[gb234]? = some (.cells #[.int .i64 a0_0, .int .i64 a0_1, (.slice A0_2 l0_2.length c0_2), .int .i64 a1_0, .int .i64 a1_1, (.slice (some ad235) t228.length co30), u235006] 78 (0, 0))) ∧ Aside0 (nb252_ ≤ w'.heap.size) ∧ Aside0 (Below w.heap.size w w'))
     case atStart => exact ⟨(t236), (0), (x235006_2), (u235006), zg22, H', ⟨Nat.le_refl _⟩, ⟨zg12⟩, ⟨by (with_reducible repeat (first | apply Kd.S_alloc | apply Kd.S_drewN | apply Kd.S_drew)); exact Kd.S_mono HO238.out (fun _ hk => ⟨hk.1.1.2, ⟨hk.1.2, ⟨hk.2, hk.1.1.1.2⟩⟩⟩)⟩, ⟨zg8⟩, ⟨by (with_reducible repeat (first | apply Kd.S_alloc | apply Kd.S_drewN | apply Kd.S_drew)); exact Kd.S_mono HO_235006.out (fun _ hk => ⟨hk.1.1.1, ⟨hk.2, ⟨hk.1.1.2, hk.1.2⟩⟩⟩)⟩, ⟨zg3⟩, ⟨zg6⟩, ⟨zg11⟩, ⟨zg10⟩, ⟨zg1⟩⟩
     case round =>
      clear H'
      try clear c1; try clear c2; try clear p2; try clear q2; try clear hx2; try clear c3; try clear c4; try clear c5; try clear c6; try clear p6; try clear c7; try clear c8; try clear c9; try clear c14; try clear c17; try clear c20; try clear c20b0; try clear c20b1; try clear c21; try clear c21b0; try clear c21b1; try clear p23; try clear q23; try clear hx23; try clear c25; try clear c32; try clear c33; try clear c35; try clear c35b0; try clear c36; try clear c36b0; try clear c37; try clear c37b0; try clear c39; try clear c40; try clear hcz10_0; try clear hcz10_1; try clear hcz10_2; try clear hcz12_0
      try clear hcz12_1; try clear hcz15_0; try clear hcz15_1; try clear hcz15_2; try clear hcz34_0; try clear hcz34_1; try clear hcz34_2; try clear hcz34_3; try clear hcz34_4; try clear hcz34_5; try clear hcz34_6; try clear hcz41_0; try clear hcz41_1; try clear hfz10_0; try clear hfz10_1; try clear hfz10_2; try clear hfz12_0; try clear hfz12_1; try clear hfz15_0; try clear hfz15_1; try clear hfz15_2; try clear hfz34_0; try clear hfz34_1; try clear hfz34_2; try clear hfz34_3; try clear hfz34_4; try clear hfz34_5; try clear hfz34_6; try clear hfz41_0; try clear hfz41_1; try clear hx235_0; try clear p2
      try clear p235; try clear p6; try clear q235
      obtain ⟨x43_3, x45_3, x235006_3, u235006, rfl, HA, HK3, HO_36, HO_43, HO_235005, HO_235006, BK224, BK225, BK234, HNB252, HB⟩ := hrel
      have hl43_3 := (Kd.S_reads' HO_43.out).1
      rw [hl43_3] at HO_43
      (try simp only [hl43_3])
      (try simp only [hl43_3] at BK224)
      (try simp only [hl43_3] at BK225)
      (try simp only [hl43_3] at BK234)
      (try simp only [hl43_3] at HO_36)
      (try simp only [hl43_3] at HO_235005)
      (try simp only [hl43_3] at HO_235006)
      cases gk with
      | zero => exact absurd HA.out (by simp [impl_graphOf.l1])
      | succ k3 =>
       have H := HA.out
       clear HA
       simp only [impl_graphOf.l1] at H
       by_cases c44 : x45_3 < (t236.length : Int)
       rotate_left
       ·rw [if_neg c44] at H
        have c44b0 : decide (x45_3 < (t236.length : Int)) = false := decide_eq_false c44
        have c44b8 := c44b0
        (try simp only [hl43_3] at c44b8)
        clear c44
        by_cases c90 : 0 ≤ (rd t228 x38_2)
        rotate_left
        ·rw [if_neg c90] at H
         exact absurd H (by simp)
        rw [if_pos c90] at H
        have c90b0 : decide (0 ≤ (rd t228 x38_2)) = true := decide_eq_true c90
        clear c90
        by_cases c91 : (rd t228 x38_2) < (x235006_3.length : Int)
        rotate_left
        ·rw [if_neg c91] at H
         exact absurd H (by simp)
        rw [if_pos c91] at H
        have c91b0 : decide ((rd t228 x38_2) < (x235006_3.length : Int)) = true := decide_eq_true c91
        have c91b8 := c91b0
        (try simp only [hl43_3] at c91b8)
        clear c91
        by_cases c92 : (rd_L1 x235006_3 (rd t228 x38_2)).length < 4611686018427387904
        rotate_left
        ·rw [if_neg c92] at H
         exact absurd H (by simp)
        rw [if_pos c92] at H
        have LMc92 := Aside0.mk c92
        clear c92
        obtain ⟨y249, hy249⟩ : ∃ y_ : List (List Int), y_ = (x235006_3.set ((rd t228 x38_2) : Int).toNat (sortL (rd_L1 x235006_3 (rd t228 x38_2)))) := ⟨_, rfl⟩
        replace H : (impl_graphOf.l0 k3 t228 (t228.length : Int) (wrap64 (x38_2 + 1)) a0_0 a0_1 l0_2 a1_0 a1_1 a0_0 a0_1 l0_2 a1_0 a1_1 t228 y249) = some (r1, r2, r3) := by first | (rw [hy249]; with_reducible exact H) | (have H2_ := (Option.bind_some _ _).symm.trans H; rw [hy249]; with_reducible exact H2_) | (have H2_ := (Option.bind_some _ _).symm.trans H; with_reducible exact H2_) | with_reducible exact H | (rw [hy249]; exact H) | exact H
        have Ny249 := Aside0.mk hy249
        clear hy249
        have H' := Aside0.mk H
        clear H
        have hnb93 := NB234_224.out
        have hnc93 := NB224_234.out
        have hnb94 := NB234_225.out
        have hnc94 := NB225_234.out
        have hcz95_0 : wr.cell? ⟨gb234, 0, none⟩ = some (.int .i64 a0_0) := (blk_cell BK234.out 0).trans rfl
        have hcz95_1 : wr.cell? ⟨gb234, 1, none⟩ = some (.int .i64 a0_1) := (blk_cell BK234.out 1).trans rfl
        have hcz95_2 : wr.cell? ⟨gb234, 2, none⟩ = some (.slice A0_2 l0_2.length c0_2) := (blk_cell BK234.out 2).trans rfl
        have hcz95_3 : wr.cell? ⟨gb234, 3, none⟩ = some (.int .i64 a1_0) := (blk_cell BK234.out 3).trans rfl
        have hcz95_4 : wr.cell? ⟨gb234, 4, none⟩ = some (.int .i64 a1_1) := (blk_cell BK234.out 4).trans rfl
        have hcz95_5 : wr.cell? ⟨gb234, 5, none⟩ = some (.slice (some ad235) t228.length co30) := (blk_cell BK234.out 5).trans rfl
        have hcz95_6 : wr.cell? ⟨gb234, 6, none⟩ = some (u235006) := (blk_cell BK234.out 6).trans rfl
        have hfz95_0 := blk_frozen BK234.out 0
        have hfz95_1 := blk_frozen BK234.out 1
        have hfz95_2 := blk_frozen BK234.out 2
        have hfz95_3 := blk_frozen BK234.out 3
        have hfz95_4 := blk_frozen BK234.out 4
        have hfz95_5 := blk_frozen BK234.out 5
        have hfz95_6 := blk_frozen BK234.out 6
        obtain ⟨Ao96, co96, eo96⟩ := Kd.S_slice HO_235006.out
        subst eo96
        have p248 : 0 ≤ ((rd t228 x38_2) : Int) := of_decide_eq_true zg5
        have q248 : (rd t228 x38_2) < (x235006_3.length : Int) := of_decide_eq_true zg5
        obtain ⟨ad248, A248_0, c248_0, e248, hx248_0, hl248_0, hi248_0⟩ := at_L1 (Kd.S_reads' HO_235006.out).2.2 (rd t228 x38_2) p248 q248
        cases e248
        obtain ⟨ce248, hce248, hMe248, hcc248⟩ := Kd.S_get HO_235006.out [] (rd t228 x38_2) p248 (by first | exact q248 | exact of_decide_eq_true zg5 | (have e_ := (Kd.S_reads' HO_235006.out).1; omega))
        obtain ⟨ve248_0, rfl, ge248_0⟩ := hMe248
        have hv248_0 := hcc248 0 _ rfl
        rw [Nat.add_zero, show ((Kd.slice 3 (Kd.int .i64))).sz = 1 from rfl, Nat.mul_one] at hv248_0
        replace hv248_0 := Option.some.inj (hv248_0.symm.trans hx248_0)
        rw [hv248_0] at ge248_0
        have HL248_0 := Aside0.mk (show Kd.R (Kd.int .i64) 3 _ _ _ _ (rd_L1 x235006_3 (rd t228 x38_2)) from ge248_0)
        clear hv248_0 ge248_0
        have HX248_0 := Aside0.mk hx248_0
        clear hcc248 hce248
        have HR248_0 := Aside0.mk hi248_0
        have HC248_0 := Aside0.mk hl248_0
        clear hi248_0 hl248_0
        replace p248 := eq_true p248
        replace q248 := eq_true q248
        have hq97 : ((rd t228 x38_2) : Int) < (x235006_3.length : Int) := (by have h_ : ((rd t228 x38_2) : Int) < ((x235006_3.length : Int) : Int) := of_decide_eq_true zg5; first | exact h_ | (have e_ := (Kd.S_reads' HO_235006.out).1; omega) | simpa only [List.length_set, List.length_set] using h_)
        obtain ⟨oki97, ce97, hcl97, hM97, hcc97, hok97, hbk97⟩ := Kd.S_borrow HO_235006.out [] ((rd t228 x38_2) : Int) (of_decide_eq_true zg5) hq97
        obtain ⟨ve97_0, rfl, ge97_0⟩ := hM97
        have hv97 := hcc97 0 _ rfl
        rw [Nat.add_zero, show ((Kd.slice 3 (Kd.int .i64))).sz = 1 from rfl, Nat.mul_one] at hv97
        replace hv97 := Option.some.inj (hv97.symm.trans HX248_0.out)
        subst hv97
        clear hcc97 hcl97
        have HP97 := Aside0.mk (show Kd.R (Kd.int .i64) 3 _ w.heap.size oki97 _ (rd_L1 x235006_3 (rd t228 x38_2)) from ge97_0)
        have HBK97 := Aside0.mk @hbk97
        clear hbk97 ge97_0
        go_wp2_with (first | ((with_reducible refine gate_callee (f := 72) rfl ?_); refine goesL_ (some 122) rfl rfl Try.func72 (by kernel_rfl) rfl #[.slice A248_0 (rd_L1 x235006_3 (rd t228 x38_2)).length c248_0] rfl zg16 ?_; (with_reducible refine (slices_Sort_int_int.inrow _ _ _ _ (rd_L1 x235006_3 (rd t228 x38_2)) (by first | exact HP97.out | (repeat (first | (with_reducible apply Kd.R_alloc) | (with_reducible apply Kd.R_drewN) | (with_reducible apply Kd.R_drew))); exact HP97.out) LMc92.out).mono ?_); rintro e w98 ⟨rfl, hz_, hg⟩; refine ⟨_, rfl, ?_⟩; have hp_ : Kd.S (Kd.slice 3 (Kd.int .i64)) 22 w98 w.heap.size (fun k_ => some k_ ≠ (.slice (some ad235) t228.length co30 : Value).ownBlock ∧ some k_ ≠ (.slice Ao43 x43_3.length co43 : Value).ownBlock ∧ some k_ ≠ (.slice (some ad235) t228.length co30 : Value).ownBlock ∧ k_ ≠ (rngIn na252_ nb252_ k_)) (.slice (some ad248) x235006_3.length co96) y249 := (by rw [Ny249.out]; exact HBK97.out hg (fun k_ e_ => HP97.out.1 k_ e_) (Kd.M_row hz_)); have n0_ := Aside0.mk (Kd.R_grown2 zg12 rfl hg (fun k_ e_ => (HL248_0.out.1 k_ e_).1.1)); have n1_ := Aside0.mk (Kd.S_grown zg23 hg (by exact fun k_ hk_ e_ => rng_apart (hk_.2.2.2) ((HL248_0.out.1 k_ e_.symm).1.2.2.2))); have n2_ := Aside0.mk (Kd.R_grown2 zg8 rfl hg (fun k_ e_ => (HL248_0.out.1 k_ e_).1.2.2.1)); have n3_ := Aside0.mk (hp_); have n4_ := Aside0.mk (blk_grown (g := gb224) (o := .cells #[.int .i64 a0_0, .int .i64 a0_1, .slice A0_2 l0_2.length c0_2] 30 (0, 0)) zg3 hg (Kd.R_ne HL248_0.out BK224.out (by decide))); have n5_ := Aside0.mk (blk_grown (g := gb225) (o := .cells #[.int .i64 a1_0, .int .i64 a1_1] 32 (0, 0)) zg6 hg (Kd.R_ne HL248_0.out BK225.out (by decide))); have n6_ := Aside0.mk (blk_grown (g := gb234) (o := .cells #[.int .i64 a0_0, .int .i64 a0_1, .slice A0_2 l0_2.length c0_2, .int .i64 a1_0, .int .i64 a1_1, .slice (some ad235) t228.length co30, .slice (some ad248) x235006_3.length co96] 78 (0, 0)) zg11 hg (Kd.R_ne HL248_0.out BK234.out (by decide))); have n7_ := Aside0.mk (pw_below_grown zg1 _ (below_size zg1) hg (Kd.R_base HP97.out)); have n8_ := Aside0.mk (show nb252_ ≤ w98.heap.size from zg7); clear HO_36; clear HO_43; clear HO_235005; clear HO_235006; clear BK224; clear BK225; clear BK234; clear HB; clear HNB252; clear HL248_0; have HO_36 := n0_; have HO_43 := n1_; have HO_235005 := n2_; have HO_235006 := n3_; have BK224 := n4_; have BK225 := n5_; have BK234 := n6_; have HB := n7_; have HNB252 := n8_; clear n0_ n1_ n2_ n3_ n4_ n5_ n6_ n7_ n8_; clear hg hz_ hp_ HP97 HBK97))
        (try simp only [← hl43_3])
        go_roundg k3
        case measure => have := HJ2.out; have := HK2.out; have := HK3.out; omega
        case rel => exact ⟨(wrap64 (x38_2 + 1)), (y249), (.slice (some ad248) x235006_3.length co96), zg22, H', ⟨zg25⟩, ⟨zg18⟩, ⟨zg17⟩, ⟨by (try simp only [hl43_3]); (with_reducible repeat (first | apply Kd.S_alloc | apply Kd.S_drewN | apply Kd.S_drew)); exact Kd.S_mono HO_235006.out (fun _ hk => ⟨hk.1, hk.2.2.1⟩)⟩, ⟨zg15⟩, ⟨zg14⟩, ⟨zg13⟩, ⟨zg1⟩⟩
       rw [if_pos c44] at H
       have c44b0 : decide (x45_3 < (t236.length : Int)) = true := decide_eq_true c44
       have c44b8 := c44b0
       (try simp only [hl43_3] at c44b8)
       clear c44
       by_cases c45 : 0 ≤ x45_3
       rotate_left
       ·rw [if_neg c45] at H
        exact absurd H (by simp)
       rw [if_pos c45] at H
       have c45b0 : decide (0 ≤ x45_3) = true := decide_eq_true c45
       clear c45
       by_cases c46 : x45_3 < (x43_3.length : Int)
       rotate_left
       ·rw [if_neg c46] at H
        exact absurd H (by simp)
       rw [if_pos c46] at H
       have c46b0 : decide (x45_3 < (x43_3.length : Int)) = true := decide_eq_true c46
       have c46b8 := c46b0
       (try simp only [hl43_3] at c46b8)
       clear c46
       by_cases c47 : a0_0 = 0
       ·rw [if_pos c47] at H
        exact absurd H (by simp)
       rw [if_neg c47] at H
       have c47b0 : (a0_0 == 0) = false := beq_eq_false_iff_ne.mpr c47
       have c47b1 : (a0_0 != 0) = true := bne_iff_ne.mpr c47
       by_cases c48 : 0 < ((rd_L1 x43_3 x45_3).length : Int)
       rotate_left
       ·rw [if_neg c48] at H
        exact absurd H (by simp)
       rw [if_pos c48] at H
       have c48b0 : decide (0 < ((rd_L1 x43_3 x45_3).length : Int)) = true := decide_eq_true c48
       have c48b8 := c48b0
       (try simp only [hl43_3] at c48b8)
       have c48b1 : decide (0 < (rd_L1 x43_3 x45_3).length) = true := decide_eq_true (by omega)
       have c48b9 := c48b1
       (try simp only [hl43_3] at c48b9)
       clear c48
       by_cases c49 : 1 < ((rd_L1 x43_3 x45_3).length : Int)
       rotate_left
       ·rw [if_neg c49] at H
        exact absurd H (by simp)
       rw [if_pos c49] at H
       have c49b0 : decide (1 < ((rd_L1 x43_3 x45_3).length : Int)) = true := decide_eq_true c49
       have c49b8 := c49b0
       (try simp only [hl43_3] at c49b8)
       have c49b1 : decide (1 < (rd_L1 x43_3 x45_3).length) = true := decide_eq_true (by omega)
       have c49b9 := c49b1
       (try simp only [hl43_3] at c49b9)
       clear c49
       by_cases c50 : (wrap64 ((Int.tmod (rd t228 x38_2) a0_0) + (rd (rd_L1 x43_3 x45_3) 0))) ≥ 0
       rotate_left
       ·rw [if_neg c50] at H
        have c50b0 : decide (0 ≤ (wrap64 ((Int.tmod (rd t228 x38_2) a0_0) + (rd (rd_L1 x43_3 x45_3) 0)))) = false := decide_eq_false c50
        clear c50
        have H' := Aside0.mk H
        clear H
        have p239 : 0 ≤ (x45_3 : Int) := of_decide_eq_true zg5
        have q239 : x45_3 < (x43_3.length : Int) := of_decide_eq_true zg5
        obtain ⟨ad239, A239_0, c239_0, e239, hx239_0, hl239_0, hi239_0⟩ := at_L1 (Kd.S_reads' HO_43.out).2.2 x45_3 p239 q239
        cases e239
        obtain ⟨ce239, hce239, hMe239, hcc239⟩ := Kd.S_get HO_43.out [] x45_3 p239 zg30
        obtain ⟨ve239_0, rfl, ge239_0⟩ := hMe239
        have hv239_0 := hcc239 0 _ rfl
        rw [Nat.add_zero, show ((Kd.slice 3 (Kd.int .i64))).sz = 1 from rfl, Nat.mul_one] at hv239_0
        replace hv239_0 := Option.some.inj (hv239_0.symm.trans hx239_0)
        rw [hv239_0] at ge239_0
        have HL239_0 := Aside0.mk (show Kd.R (Kd.int .i64) 3 _ _ _ _ (rd_L1 x43_3 x45_3) from ge239_0)
        clear hv239_0 ge239_0
        have HX239_0 := Aside0.mk hx239_0
        clear hcc239 hce239
        have HR239_0 := Aside0.mk hi239_0
        have HC239_0 := Aside0.mk hl239_0
        clear hi239_0 hl239_0
        replace p239 := eq_true p239
        replace q239 := eq_true q239
        try go_wp2
        have n0_ := Aside0.mk (Kd.R_drew HO_36.out)
        have n1_ := Aside0.mk (Kd.S_drew HO_43.out)
        have n2_ := Aside0.mk (Kd.R_drew HO_235005.out)
        have n3_ := Aside0.mk (Kd.S_drew HO_235006.out)
        have n4_ := Aside0.mk (Kd.R_drew HL239_0.out)
        have n5_ := Aside0.mk (blk_drew BK224.out)
        have n6_ := Aside0.mk (blk_drew BK225.out)
        have n7_ := Aside0.mk (blk_drew BK234.out)
        have n8_ := Aside0.mk (Kd.C_drew HR239_0.out)
        have n9_ := Aside0.mk (below_drew1 HB.out)
        have n10_ := Aside0.mk (show nb252_ ≤ (wr.drew).heap.size from zg10)
        clear HO_36
        clear HO_43
        clear HO_235005
        clear HO_235006
        clear HL239_0
        clear BK224
        clear BK225
        clear BK234
        clear HR239_0
        clear HB
        clear HNB252
        have HO_36 := n0_
        have HO_43 := n1_
        have HO_235005 := n2_
        have HO_235006 := n3_
        have HL239_0 := n4_
        have BK224 := n5_
        have BK225 := n6_
        have BK234 := n7_
        have HR239_0 := n8_
        have HB := n9_
        have HNB252 := n10_
        clear n0_ n1_ n2_ n3_ n4_ n5_ n6_ n7_ n8_ n9_ n10_
        have p240 : 0 ≤ (0 : Int) := (by omega)
        have q240 : 0 < ((rd_L1 x43_3 x45_3).length : Int) := of_decide_eq_true zg5
        obtain ⟨ad240, e240, hx240_0⟩ := Kd.at_int zg4 0 p240 q240
        cases e240
        have qi240 : (0 < (rd_L1 x43_3 x45_3).length) = True := eq_true (by omega)
        (try rw [show ((0 : Int)).toNat = 0 from rfl] at hx240_0)
        (try rw [Addr.add_zero'] at hx240_0)
        replace p240 := eq_true p240
        replace q240 := eq_true q240
        have p241 : 0 ≤ (1 : Int) := (by omega)
        have q241 : 1 < ((rd_L1 x43_3 x45_3).length : Int) := of_decide_eq_true zg5
        obtain ⟨ad241, e241, hx241_0⟩ := Kd.at_int zg4 1 p241 q241
        obtain rfl : ad240 = ad241 := (by injection e241)
        (try simp only [show (1 : Int).toNat = 1 from rfl, Nat.reduceMul, Nat.reduceEqDiff, Go.Addr.add, ↓reduceIte] at hx241_0)
        have qi241 : (1 < (rd_L1 x43_3 x45_3).length) = True := eq_true (by omega)
        (try rw [show ((1 : Int)).toNat = 1 from rfl] at hx241_0)
        replace p241 := eq_true p241
        replace q241 := eq_true q241
        refine start_ (n := 18) (S := fun w' => w'.cell? ⟨gb224, 0, none⟩ = some (.int .i64 a0_0) ∧ w'.cell? ⟨gb224, 1, none⟩ = some (.int .i64 a0_1) ∧ w'.cell? ⟨gb224, 2, none⟩ = some (.slice A0_2 l0_2.length c0_2) ∧ w'.cell? ad240 = some (.int .i64 (rd (rd_L1 x43_3 x45_3) 0)) ∧ w'.cell? ⟨ad240.block, ad240.off + 1, none⟩ = some (.int .i64 (rd (rd_L1 x43_3 x45_3) 1))) (ds := []) #[false, false, false, false, false, false, false, false, false, false, false, false, false, false, false, false, false, false] (by kernel_rfl) rfl rfl ⟨(blk_cell BK224.out 0).trans rfl, (blk_cell BK224.out 1).trans rfl, (blk_cell BK224.out 2).trans rfl, hx240_0, hx241_0⟩ (fun hHeld => ?_); refine with_tabW impl_graphOf.tab10 impl_graphOf.bits10 (fun HT_ HW_ => ?_)
        generalize wr.drew = w89 at HO_36 HO_43 HO_235005 HO_235006 HL239_0 BK224 BK225 BK234 HR239_0 HNB252 HB hx240_0 hx241_0 hHeld ⊢
        refine pure_ (i := 0) (N := some 49) (v := ?_) (a' := ?_) #[true, false, false, false, false, false, false, false, false, false, false, false, false, false, false, false, false, false] rfl rfl (any_of HT_.out (by kernel_rfl)) (fun _ _ _ h => h) (Or.inl ⟨by rfl, ?_⟩) ?_ ?_
        rotate_left
        ·intro w'
         go_simp
         with_reducible rfl
        rotate_left
        ·simp only [Act.put, List.setIfInBounds_toArray, List.set_cons_zero, List.set_cons_succ, i64_w, i32_w]
         rfl
        refine pure_ (i := 1) (N := some 50) (v := ?_) (a' := ?_) #[true, true, false, false, false, false, false, false, false, false, false, false, false, false, false, false, false, false] rfl rfl (any_of HT_.out (by kernel_rfl)) (fun _ _ _ h => h) (Or.inl ⟨by rfl, ?_⟩) ?_ ?_
        rotate_left
        ·intro w'
         go_simp
         with_reducible rfl
        rotate_left
        ·simp only [Act.put, List.setIfInBounds_toArray, List.set_cons_zero, List.set_cons_succ, i64_w, i32_w]
         rfl
        refine pure_ (i := 4) (N := some 53) (v := ?_) (a' := ?_) #[true, true, false, false, true, false, false, false, false, false, false, false, false, false, false, false, false, false] rfl rfl (any_of HT_.out (by kernel_rfl)) (fun _ _ _ h => h) (Or.inl ⟨by rfl, ?_⟩) ?_ ?_
        rotate_left
        ·intro w'
         go_simp
         with_reducible rfl
        rotate_left
        ·simp only [Act.put, List.setIfInBounds_toArray, List.set_cons_zero, List.set_cons_succ, i64_w, i32_w]
         rfl
        refine pure_ (i := 5) (N := some 54) (v := ?_) (a' := ?_) #[true, true, false, false, true, true, false, false, false, false, false, false, false, false, false, false, false, false] rfl rfl (any_of HT_.out (by kernel_rfl)) (fun _ _ _ h => h) (Or.inl ⟨by rfl, ?_⟩) ?_ ?_
        rotate_left
        ·intro w'
         go_simp
         with_reducible rfl
        rotate_left
        ·simp only [Act.put, List.setIfInBounds_toArray, List.set_cons_zero, List.set_cons_succ, i64_w, i32_w]
         rfl
        refine pure_ (i := 8) (N := some 57) (v := ?_) (a' := ?_) #[true, true, false, false, true, true, false, false, true, false, false, false, false, false, false, false, false, false] rfl rfl (any_of HT_.out (by kernel_rfl)) (fun _ _ _ h => h) (Or.inl ⟨by rfl, ?_⟩) ?_ ?_
        rotate_left
        ·intro w'
         go_simp
         with_reducible rfl
        rotate_left
        ·simp only [Act.put, List.setIfInBounds_toArray, List.set_cons_zero, List.set_cons_succ, i64_w, i32_w]
         rfl
        refine pure_ (i := 9) (N := some 58) (v := ?_) (a' := ?_) #[true, true, false, false, true, true, false, false, true, true, false, false, false, false, false, false, false, false] rfl rfl (any_of HT_.out (by kernel_rfl)) (fun _ _ _ h => h) (Or.inl ⟨by rfl, ?_⟩) ?_ ?_
        rotate_left
        ·intro w'
         go_simp
         with_reducible rfl
        rotate_left
        ·simp only [Act.put, List.setIfInBounds_toArray, List.set_cons_zero, List.set_cons_succ, i64_w, i32_w]
         rfl
        refine pure_ (i := 12) (N := some 61) (v := ?_) (a' := ?_) #[true, true, false, false, true, true, false, false, true, true, false, false, true, false, false, false, false, false] rfl rfl (any_of HT_.out (by kernel_rfl)) (fun _ _ _ h => h) (Or.inl ⟨by rfl, ?_⟩) ?_ ?_
        rotate_left
        ·intro w'
         go_simp
         with_reducible rfl
        rotate_left
        ·simp only [Act.put, List.setIfInBounds_toArray, List.set_cons_zero, List.set_cons_succ, i64_w, i32_w]
         rfl
        refine pure_ (i := 13) (N := some 62) (v := ?_) (a' := ?_) #[true, true, false, false, true, true, false, false, true, true, false, false, true, true, false, false, false, false] rfl rfl (any_of HT_.out (by kernel_rfl)) (fun _ _ _ h => h) (Or.inl ⟨by rfl, ?_⟩) ?_ ?_
        rotate_left
        ·intro w'
         go_simp
         with_reducible rfl
        rotate_left
        ·simp only [Act.put, List.setIfInBounds_toArray, List.set_cons_zero, List.set_cons_succ, i64_w, i32_w]
         rfl
        refine take_ (i := 2) (N := some 51) (v := ?_) (a' := ?_) #[true, true, true, false, true, true, false, false, true, true, false, false, true, true, false, false, false, false] rfl rfl (take_ofW HT_.out HW_.out (by kernel_rfl)) (fun _ _ _ h => h) (Or.inl ⟨by rfl, ?_⟩) hHeld ?_ ?_
        rotate_left
        ·rintro w' ⟨s0, s1, s2, s3, s4⟩
         go_simp
         with_reducible rfl
        rotate_left
        ·simp only [Act.put, List.setIfInBounds_toArray, List.set_cons_zero, List.set_cons_succ, i64_w, i32_w]
         rfl
        refine pure_ (i := 3) (N := some 52) (v := ?_) (a' := ?_) #[true, true, true, true, true, true, false, false, true, true, false, false, true, true, false, false, false, false] rfl rfl (any_of HT_.out (by kernel_rfl)) (fun _ _ _ h => h) (Or.inl ⟨by rfl, ?_⟩) ?_ ?_
        rotate_left
        ·intro w'
         go_simp
         with_reducible rfl
        rotate_left
        ·simp only [Act.put, List.setIfInBounds_toArray, List.set_cons_zero, List.set_cons_succ, i64_w, i32_w]
         rfl
        refine take_ (i := 6) (N := some 55) (v := ?_) (a' := ?_) #[true, true, true, true, true, true, true, false, true, true, false, false, true, true, false, false, false, false] rfl rfl (take_ofW HT_.out HW_.out (by kernel_rfl)) (fun _ _ _ h => h) (Or.inl ⟨by rfl, ?_⟩) hHeld ?_ ?_
        rotate_left
        ·rintro w' ⟨s0, s1, s2, s3, s4⟩
         go_simp
         with_reducible rfl
        rotate_left
        ·simp only [Act.put, List.setIfInBounds_toArray, List.set_cons_zero, List.set_cons_succ, i64_w, i32_w]
         rfl
        refine pure_ (i := 7) (N := some 56) (v := ?_) (a' := ?_) #[true, true, true, true, true, true, true, true, true, true, false, false, true, true, false, false, false, false] rfl rfl (any_of HT_.out (by kernel_rfl)) (fun _ _ _ h => h) (Or.inl ⟨by rfl, ?_⟩) ?_ ?_
        rotate_left
        ·intro w'
         go_simp
         with_reducible rfl
        rotate_left
        ·simp only [Act.put, List.setIfInBounds_toArray, List.set_cons_zero, List.set_cons_succ, i64_w, i32_w]
         rfl
        refine pure_ (i := 16) (N := some 11) (v := ?_) (a' := ?_) #[true, true, true, true, true, true, true, true, true, true, false, false, true, true, false, false, true, false] rfl rfl (any_of HT_.out (by kernel_rfl)) (fun _ _ _ h => h) (Or.inl ⟨by rfl, ?_⟩) ?_ ?_
        rotate_left
        ·intro w'
         go_simp
         with_reducible rfl
        rotate_left
        ·simp only [Act.put, List.setIfInBounds_toArray, List.set_cons_zero, List.set_cons_succ, i64_w, i32_w]
         rfl
        refine take_ (i := 10) (N := some 59) (v := ?_) (a' := ?_) #[true, true, true, true, true, true, true, true, true, true, true, false, true, true, false, false, true, false] rfl rfl (take_ofW HT_.out HW_.out (by kernel_rfl)) (fun _ _ _ h => h) (Or.inl ⟨by rfl, ?_⟩) hHeld ?_ ?_
        rotate_left
        ·rintro w' ⟨s0, s1, s2, s3, s4⟩
         go_simp
         with_reducible rfl
        rotate_left
        ·simp only [Act.put, List.setIfInBounds_toArray, List.set_cons_zero, List.set_cons_succ, i64_w, i32_w]
         rfl
        refine pure_ (i := 11) (N := some 60) (v := ?_) (a' := ?_) #[true, true, true, true, true, true, true, true, true, true, true, true, true, true, false, false, true, false] rfl rfl (any_of HT_.out (by kernel_rfl)) (fun _ _ _ h => h) (Or.inl ⟨by rfl, ?_⟩) ?_ ?_
        rotate_left
        ·intro w'
         go_simp
         with_reducible rfl
        rotate_left
        ·simp only [Act.put, List.setIfInBounds_toArray, List.set_cons_zero, List.set_cons_succ, i64_w, i32_w]
         rfl
        refine take_ (i := 14) (N := some 63) (v := ?_) (a' := ?_) #[true, true, true, true, true, true, true, true, true, true, true, true, true, true, true, false, true, false] rfl rfl (take_ofW HT_.out HW_.out (by kernel_rfl)) (fun _ _ _ h => h) (Or.inl ⟨by rfl, ?_⟩) hHeld ?_ ?_
        rotate_left
        ·rintro w' ⟨s0, s1, s2, s3, s4⟩
         go_simp
         with_reducible rfl
        rotate_left
        ·simp only [Act.put, List.setIfInBounds_toArray, List.set_cons_zero, List.set_cons_succ, i64_w, i32_w]
         rfl
        refine pure_ (i := 15) (N := some 64) (v := ?_) (a' := ?_) #[true, true, true, true, true, true, true, true, true, true, true, true, true, true, true, true, true, false] rfl rfl (any_of HT_.out (by kernel_rfl)) (fun _ _ _ h => h) (Or.inl ⟨by rfl, ?_⟩) ?_ ?_
        rotate_left
        ·intro w'
         go_simp
         with_reducible rfl
        rotate_left
        ·simp only [Act.put, List.setIfInBounds_toArray, List.set_cons_zero, List.set_cons_succ, i64_w, i32_w]
         rfl
        refine pure_ (i := 17) (N := some 12) (v := ?_) (a' := ?_) #[true, true, true, true, true, true, true, true, true, true, true, true, true, true, true, true, true, true] rfl rfl (any_of HT_.out (by kernel_rfl)) (fun _ _ _ h => h) (Or.inl ⟨by rfl, ?_⟩) ?_ ?_
        rotate_left
        ·intro w'
         go_simp
         with_reducible rfl
        rotate_left
        ·simp only [Act.put, List.setIfInBounds_toArray, List.set_cons_zero, List.set_cons_succ, i64_w, i32_w]
         rfl
        refine done_ (done_of HT_.out (by kernel_rfl)) ?_
        try go_wp2
        (try simp only [← hl43_3])
        go_roundg k3
        case measure => have := HJ2.out; have := HK2.out; have := HK3.out; omega
        case rel => exact ⟨(x43_3), (wrap64 (x45_3 + 1)), (x235006_3), (u235006), zg22, H', ⟨zg25⟩, ⟨zg18⟩, ⟨zg21⟩, ⟨zg17⟩, ⟨zg20⟩, ⟨zg15⟩, ⟨zg14⟩, ⟨zg13⟩, ⟨zg10⟩, ⟨zg1⟩⟩
       rw [if_pos c50] at H
       have c50b0 : decide (0 ≤ (wrap64 ((Int.tmod (rd t228 x38_2) a0_0) + (rd (rd_L1 x43_3 x45_3) 0)))) = true := decide_eq_true c50
       clear c50
       by_cases c51 : (wrap64 ((Int.tmod (rd t228 x38_2) a0_0) + (rd (rd_L1 x43_3 x45_3) 0))) < a0_0
       rotate_left
       ·rw [if_neg c51] at H
        have c51b0 : decide ((wrap64 ((Int.tmod (rd t228 x38_2) a0_0) + (rd (rd_L1 x43_3 x45_3) 0))) < a0_0) = false := decide_eq_false c51
        clear c51
        have H' := Aside0.mk H
        clear H
        have p239 : 0 ≤ (x45_3 : Int) := of_decide_eq_true zg5
        have q239 : x45_3 < (x43_3.length : Int) := of_decide_eq_true zg5
        obtain ⟨ad239, A239_0, c239_0, e239, hx239_0, hl239_0, hi239_0⟩ := at_L1 (Kd.S_reads' HO_43.out).2.2 x45_3 p239 q239
        cases e239
        obtain ⟨ce239, hce239, hMe239, hcc239⟩ := Kd.S_get HO_43.out [] x45_3 p239 zg30
        obtain ⟨ve239_0, rfl, ge239_0⟩ := hMe239
        have hv239_0 := hcc239 0 _ rfl
        rw [Nat.add_zero, show ((Kd.slice 3 (Kd.int .i64))).sz = 1 from rfl, Nat.mul_one] at hv239_0
        replace hv239_0 := Option.some.inj (hv239_0.symm.trans hx239_0)
        rw [hv239_0] at ge239_0
        have HL239_0 := Aside0.mk (show Kd.R (Kd.int .i64) 3 _ _ _ _ (rd_L1 x43_3 x45_3) from ge239_0)
        clear hv239_0 ge239_0
        have HX239_0 := Aside0.mk hx239_0
        clear hcc239 hce239
        have HR239_0 := Aside0.mk hi239_0
        have HC239_0 := Aside0.mk hl239_0
        clear hi239_0 hl239_0
        replace p239 := eq_true p239
        replace q239 := eq_true q239
        try go_wp2
        have n0_ := Aside0.mk (Kd.R_drew HO_36.out)
        have n1_ := Aside0.mk (Kd.S_drew HO_43.out)
        have n2_ := Aside0.mk (Kd.R_drew HO_235005.out)
        have n3_ := Aside0.mk (Kd.S_drew HO_235006.out)
        have n4_ := Aside0.mk (Kd.R_drew HL239_0.out)
        have n5_ := Aside0.mk (blk_drew BK224.out)
        have n6_ := Aside0.mk (blk_drew BK225.out)
        have n7_ := Aside0.mk (blk_drew BK234.out)
        have n8_ := Aside0.mk (Kd.C_drew HR239_0.out)
        have n9_ := Aside0.mk (below_drew1 HB.out)
        have n10_ := Aside0.mk (show nb252_ ≤ (wr.drew).heap.size from zg10)
        clear HO_36
        clear HO_43
        clear HO_235005
        clear HO_235006
        clear HL239_0
        clear BK224
        clear BK225
        clear BK234
        clear HR239_0
        clear HB
        clear HNB252
        have HO_36 := n0_
        have HO_43 := n1_
        have HO_235005 := n2_
        have HO_235006 := n3_
        have HL239_0 := n4_
        have BK224 := n5_
        have BK225 := n6_
        have BK234 := n7_
        have HR239_0 := n8_
        have HB := n9_
        have HNB252 := n10_
        clear n0_ n1_ n2_ n3_ n4_ n5_ n6_ n7_ n8_ n9_ n10_
        have p240 : 0 ≤ (0 : Int) := (by omega)
        have q240 : 0 < ((rd_L1 x43_3 x45_3).length : Int) := of_decide_eq_true zg5
        obtain ⟨ad240, e240, hx240_0⟩ := Kd.at_int zg4 0 p240 q240
        cases e240
        have qi240 : (0 < (rd_L1 x43_3 x45_3).length) = True := eq_true (by omega)
        (try rw [show ((0 : Int)).toNat = 0 from rfl] at hx240_0)
        (try rw [Addr.add_zero'] at hx240_0)
        replace p240 := eq_true p240
        replace q240 := eq_true q240
        have p241 : 0 ≤ (1 : Int) := (by omega)
        have q241 : 1 < ((rd_L1 x43_3 x45_3).length : Int) := of_decide_eq_true zg5
        obtain ⟨ad241, e241, hx241_0⟩ := Kd.at_int zg4 1 p241 q241
        obtain rfl : ad240 = ad241 := (by injection e241)
        (try simp only [show (1 : Int).toNat = 1 from rfl, Nat.reduceMul, Nat.reduceEqDiff, Go.Addr.add, ↓reduceIte] at hx241_0)
        have qi241 : (1 < (rd_L1 x43_3 x45_3).length) = True := eq_true (by omega)
        (try rw [show ((1 : Int)).toNat = 1 from rfl] at hx241_0)
        replace p241 := eq_true p241
        replace q241 := eq_true q241
        refine start_ (n := 18) (S := fun w' => w'.cell? ⟨gb224, 0, none⟩ = some (.int .i64 a0_0) ∧ w'.cell? ⟨gb224, 1, none⟩ = some (.int .i64 a0_1) ∧ w'.cell? ⟨gb224, 2, none⟩ = some (.slice A0_2 l0_2.length c0_2) ∧ w'.cell? ad240 = some (.int .i64 (rd (rd_L1 x43_3 x45_3) 0)) ∧ w'.cell? ⟨ad240.block, ad240.off + 1, none⟩ = some (.int .i64 (rd (rd_L1 x43_3 x45_3) 1))) (ds := []) #[false, false, false, false, false, false, false, false, false, false, false, false, false, false, false, false, false, false] (by kernel_rfl) rfl rfl ⟨(blk_cell BK224.out 0).trans rfl, (blk_cell BK224.out 1).trans rfl, (blk_cell BK224.out 2).trans rfl, hx240_0, hx241_0⟩ (fun hHeld => ?_); refine with_tabW impl_graphOf.tab10 impl_graphOf.bits10 (fun HT_ HW_ => ?_)
        generalize wr.drew = w85 at HO_36 HO_43 HO_235005 HO_235006 HL239_0 BK224 BK225 BK234 HR239_0 HNB252 HB hx240_0 hx241_0 hHeld ⊢
        refine pure_ (i := 0) (N := some 49) (v := ?_) (a' := ?_) #[true, false, false, false, false, false, false, false, false, false, false, false, false, false, false, false, false, false] rfl rfl (any_of HT_.out (by kernel_rfl)) (fun _ _ _ h => h) (Or.inl ⟨by rfl, ?_⟩) ?_ ?_
        rotate_left
        ·intro w'
         go_simp
         with_reducible rfl
        rotate_left
        ·simp only [Act.put, List.setIfInBounds_toArray, List.set_cons_zero, List.set_cons_succ, i64_w, i32_w]
         rfl
        refine pure_ (i := 1) (N := some 50) (v := ?_) (a' := ?_) #[true, true, false, false, false, false, false, false, false, false, false, false, false, false, false, false, false, false] rfl rfl (any_of HT_.out (by kernel_rfl)) (fun _ _ _ h => h) (Or.inl ⟨by rfl, ?_⟩) ?_ ?_
        rotate_left
        ·intro w'
         go_simp
         with_reducible rfl
        rotate_left
        ·simp only [Act.put, List.setIfInBounds_toArray, List.set_cons_zero, List.set_cons_succ, i64_w, i32_w]
         rfl
        refine pure_ (i := 4) (N := some 53) (v := ?_) (a' := ?_) #[true, true, false, false, true, false, false, false, false, false, false, false, false, false, false, false, false, false] rfl rfl (any_of HT_.out (by kernel_rfl)) (fun _ _ _ h => h) (Or.inl ⟨by rfl, ?_⟩) ?_ ?_
        rotate_left
        ·intro w'
         go_simp
         with_reducible rfl
        rotate_left
        ·simp only [Act.put, List.setIfInBounds_toArray, List.set_cons_zero, List.set_cons_succ, i64_w, i32_w]
         rfl
        refine pure_ (i := 5) (N := some 54) (v := ?_) (a' := ?_) #[true, true, false, false, true, true, false, false, false, false, false, false, false, false, false, false, false, false] rfl rfl (any_of HT_.out (by kernel_rfl)) (fun _ _ _ h => h) (Or.inl ⟨by rfl, ?_⟩) ?_ ?_
        rotate_left
        ·intro w'
         go_simp
         with_reducible rfl
        rotate_left
        ·simp only [Act.put, List.setIfInBounds_toArray, List.set_cons_zero, List.set_cons_succ, i64_w, i32_w]
         rfl
        refine pure_ (i := 8) (N := some 57) (v := ?_) (a' := ?_) #[true, true, false, false, true, true, false, false, true, false, false, false, false, false, false, false, false, false] rfl rfl (any_of HT_.out (by kernel_rfl)) (fun _ _ _ h => h) (Or.inl ⟨by rfl, ?_⟩) ?_ ?_
        rotate_left
        ·intro w'
         go_simp
         with_reducible rfl
        rotate_left
        ·simp only [Act.put, List.setIfInBounds_toArray, List.set_cons_zero, List.set_cons_succ, i64_w, i32_w]
         rfl
        refine pure_ (i := 9) (N := some 58) (v := ?_) (a' := ?_) #[true, true, false, false, true, true, false, false, true, true, false, false, false, false, false, false, false, false] rfl rfl (any_of HT_.out (by kernel_rfl)) (fun _ _ _ h => h) (Or.inl ⟨by rfl, ?_⟩) ?_ ?_
        rotate_left
        ·intro w'
         go_simp
         with_reducible rfl
        rotate_left
        ·simp only [Act.put, List.setIfInBounds_toArray, List.set_cons_zero, List.set_cons_succ, i64_w, i32_w]
         rfl
        refine pure_ (i := 12) (N := some 61) (v := ?_) (a' := ?_) #[true, true, false, false, true, true, false, false, true, true, false, false, true, false, false, false, false, false] rfl rfl (any_of HT_.out (by kernel_rfl)) (fun _ _ _ h => h) (Or.inl ⟨by rfl, ?_⟩) ?_ ?_
        rotate_left
        ·intro w'
         go_simp
         with_reducible rfl
        rotate_left
        ·simp only [Act.put, List.setIfInBounds_toArray, List.set_cons_zero, List.set_cons_succ, i64_w, i32_w]
         rfl
        refine pure_ (i := 13) (N := some 62) (v := ?_) (a' := ?_) #[true, true, false, false, true, true, false, false, true, true, false, false, true, true, false, false, false, false] rfl rfl (any_of HT_.out (by kernel_rfl)) (fun _ _ _ h => h) (Or.inl ⟨by rfl, ?_⟩) ?_ ?_
        rotate_left
        ·intro w'
         go_simp
         with_reducible rfl
        rotate_left
        ·simp only [Act.put, List.setIfInBounds_toArray, List.set_cons_zero, List.set_cons_succ, i64_w, i32_w]
         rfl
        refine take_ (i := 2) (N := some 51) (v := ?_) (a' := ?_) #[true, true, true, false, true, true, false, false, true, true, false, false, true, true, false, false, false, false] rfl rfl (take_ofW HT_.out HW_.out (by kernel_rfl)) (fun _ _ _ h => h) (Or.inl ⟨by rfl, ?_⟩) hHeld ?_ ?_
        rotate_left
        ·rintro w' ⟨s0, s1, s2, s3, s4⟩
         go_simp
         with_reducible rfl
        rotate_left
        ·simp only [Act.put, List.setIfInBounds_toArray, List.set_cons_zero, List.set_cons_succ, i64_w, i32_w]
         rfl
        refine pure_ (i := 3) (N := some 52) (v := ?_) (a' := ?_) #[true, true, true, true, true, true, false, false, true, true, false, false, true, true, false, false, false, false] rfl rfl (any_of HT_.out (by kernel_rfl)) (fun _ _ _ h => h) (Or.inl ⟨by rfl, ?_⟩) ?_ ?_
        rotate_left
        ·intro w'
         go_simp
         with_reducible rfl
        rotate_left
        ·simp only [Act.put, List.setIfInBounds_toArray, List.set_cons_zero, List.set_cons_succ, i64_w, i32_w]
         rfl
        refine take_ (i := 6) (N := some 55) (v := ?_) (a' := ?_) #[true, true, true, true, true, true, true, false, true, true, false, false, true, true, false, false, false, false] rfl rfl (take_ofW HT_.out HW_.out (by kernel_rfl)) (fun _ _ _ h => h) (Or.inl ⟨by rfl, ?_⟩) hHeld ?_ ?_
        rotate_left
        ·rintro w' ⟨s0, s1, s2, s3, s4⟩
         go_simp
         with_reducible rfl
        rotate_left
        ·simp only [Act.put, List.setIfInBounds_toArray, List.set_cons_zero, List.set_cons_succ, i64_w, i32_w]
         rfl
        refine pure_ (i := 7) (N := some 56) (v := ?_) (a' := ?_) #[true, true, true, true, true, true, true, true, true, true, false, false, true, true, false, false, false, false] rfl rfl (any_of HT_.out (by kernel_rfl)) (fun _ _ _ h => h) (Or.inl ⟨by rfl, ?_⟩) ?_ ?_
        rotate_left
        ·intro w'
         go_simp
         with_reducible rfl
        rotate_left
        ·simp only [Act.put, List.setIfInBounds_toArray, List.set_cons_zero, List.set_cons_succ, i64_w, i32_w]
         rfl
        refine pure_ (i := 16) (N := some 11) (v := ?_) (a' := ?_) #[true, true, true, true, true, true, true, true, true, true, false, false, true, true, false, false, true, false] rfl rfl (any_of HT_.out (by kernel_rfl)) (fun _ _ _ h => h) (Or.inl ⟨by rfl, ?_⟩) ?_ ?_
        rotate_left
        ·intro w'
         go_simp
         with_reducible rfl
        rotate_left
        ·simp only [Act.put, List.setIfInBounds_toArray, List.set_cons_zero, List.set_cons_succ, i64_w, i32_w]
         rfl
        refine take_ (i := 10) (N := some 59) (v := ?_) (a' := ?_) #[true, true, true, true, true, true, true, true, true, true, true, false, true, true, false, false, true, false] rfl rfl (take_ofW HT_.out HW_.out (by kernel_rfl)) (fun _ _ _ h => h) (Or.inl ⟨by rfl, ?_⟩) hHeld ?_ ?_
        rotate_left
        ·rintro w' ⟨s0, s1, s2, s3, s4⟩
         go_simp
         with_reducible rfl
        rotate_left
        ·simp only [Act.put, List.setIfInBounds_toArray, List.set_cons_zero, List.set_cons_succ, i64_w, i32_w]
         rfl
        refine pure_ (i := 11) (N := some 60) (v := ?_) (a' := ?_) #[true, true, true, true, true, true, true, true, true, true, true, true, true, true, false, false, true, false] rfl rfl (any_of HT_.out (by kernel_rfl)) (fun _ _ _ h => h) (Or.inl ⟨by rfl, ?_⟩) ?_ ?_
        rotate_left
        ·intro w'
         go_simp
         with_reducible rfl
        rotate_left
        ·simp only [Act.put, List.setIfInBounds_toArray, List.set_cons_zero, List.set_cons_succ, i64_w, i32_w]
         rfl
        refine take_ (i := 14) (N := some 63) (v := ?_) (a' := ?_) #[true, true, true, true, true, true, true, true, true, true, true, true, true, true, true, false, true, false] rfl rfl (take_ofW HT_.out HW_.out (by kernel_rfl)) (fun _ _ _ h => h) (Or.inl ⟨by rfl, ?_⟩) hHeld ?_ ?_
        rotate_left
        ·rintro w' ⟨s0, s1, s2, s3, s4⟩
         go_simp
         with_reducible rfl
        rotate_left
        ·simp only [Act.put, List.setIfInBounds_toArray, List.set_cons_zero, List.set_cons_succ, i64_w, i32_w]
         rfl
        refine pure_ (i := 15) (N := some 64) (v := ?_) (a' := ?_) #[true, true, true, true, true, true, true, true, true, true, true, true, true, true, true, true, true, false] rfl rfl (any_of HT_.out (by kernel_rfl)) (fun _ _ _ h => h) (Or.inl ⟨by rfl, ?_⟩) ?_ ?_
        rotate_left
        ·intro w'
         go_simp
         with_reducible rfl
        rotate_left
        ·simp only [Act.put, List.setIfInBounds_toArray, List.set_cons_zero, List.set_cons_succ, i64_w, i32_w]
         rfl
        refine pure_ (i := 17) (N := some 12) (v := ?_) (a' := ?_) #[true, true, true, true, true, true, true, true, true, true, true, true, true, true, true, true, true, true] rfl rfl (any_of HT_.out (by kernel_rfl)) (fun _ _ _ h => h) (Or.inl ⟨by rfl, ?_⟩) ?_ ?_
        rotate_left
        ·intro w'
         go_simp
         with_reducible rfl
        rotate_left
        ·simp only [Act.put, List.setIfInBounds_toArray, List.set_cons_zero, List.set_cons_succ, i64_w, i32_w]
         rfl
        refine done_ (done_of HT_.out (by kernel_rfl)) ?_
        have hnb86 := NB224_225.out
        have hnc86 := NB225_224.out
        have hnb87 := NB224_234.out
        have hnc87 := NB234_224.out
        have hcz88_0 : w85.cell? ⟨gb224, 0, none⟩ = some (.int .i64 a0_0) := (blk_cell BK224.out 0).trans rfl
        have hcz88_1 : w85.cell? ⟨gb224, 1, none⟩ = some (.int .i64 a0_1) := (blk_cell BK224.out 1).trans rfl
        have hcz88_2 : w85.cell? ⟨gb224, 2, none⟩ = some (.slice A0_2 l0_2.length c0_2) := (blk_cell BK224.out 2).trans rfl
        have hfz88_0 := blk_frozen BK224.out 0
        have hfz88_1 := blk_frozen BK224.out 1
        have hfz88_2 := blk_frozen BK224.out 2
        try go_wp2
        (try simp only [← hl43_3])
        go_roundg k3
        case measure => have := HJ2.out; have := HK2.out; have := HK3.out; omega
        case rel => exact ⟨(x43_3), (wrap64 (x45_3 + 1)), (x235006_3), (u235006), zg22, H', ⟨zg25⟩, ⟨zg18⟩, ⟨zg21⟩, ⟨zg17⟩, ⟨zg20⟩, ⟨zg15⟩, ⟨zg14⟩, ⟨zg13⟩, ⟨zg10⟩, ⟨zg1⟩⟩
       rw [if_pos c51] at H
       have c51b0 : decide ((wrap64 ((Int.tmod (rd t228 x38_2) a0_0) + (rd (rd_L1 x43_3 x45_3) 0))) < a0_0) = true := decide_eq_true c51
       clear c51
       by_cases c52 : (wrap64 ((wrap64 (Int.tdiv (rd t228 x38_2) a0_0)) + (rd (rd_L1 x43_3 x45_3) 1))) ≥ 0
       rotate_left
       ·rw [if_neg c52] at H
        have c52b0 : decide (0 ≤ (wrap64 ((wrap64 (Int.tdiv (rd t228 x38_2) a0_0)) + (rd (rd_L1 x43_3 x45_3) 1)))) = false := decide_eq_false c52
        clear c52
        have H' := Aside0.mk H
        clear H
        have p239 : 0 ≤ (x45_3 : Int) := of_decide_eq_true zg5
        have q239 : x45_3 < (x43_3.length : Int) := of_decide_eq_true zg5
        obtain ⟨ad239, A239_0, c239_0, e239, hx239_0, hl239_0, hi239_0⟩ := at_L1 (Kd.S_reads' HO_43.out).2.2 x45_3 p239 q239
        cases e239
        obtain ⟨ce239, hce239, hMe239, hcc239⟩ := Kd.S_get HO_43.out [] x45_3 p239 zg30
        obtain ⟨ve239_0, rfl, ge239_0⟩ := hMe239
        have hv239_0 := hcc239 0 _ rfl
        rw [Nat.add_zero, show ((Kd.slice 3 (Kd.int .i64))).sz = 1 from rfl, Nat.mul_one] at hv239_0
        replace hv239_0 := Option.some.inj (hv239_0.symm.trans hx239_0)
        rw [hv239_0] at ge239_0
        have HL239_0 := Aside0.mk (show Kd.R (Kd.int .i64) 3 _ _ _ _ (rd_L1 x43_3 x45_3) from ge239_0)
        clear hv239_0 ge239_0
        have HX239_0 := Aside0.mk hx239_0
        clear hcc239 hce239
        have HR239_0 := Aside0.mk hi239_0
        have HC239_0 := Aside0.mk hl239_0
        clear hi239_0 hl239_0
        replace p239 := eq_true p239
        replace q239 := eq_true q239
        try go_wp2
        have n0_ := Aside0.mk (Kd.R_drew HO_36.out)
        have n1_ := Aside0.mk (Kd.S_drew HO_43.out)
        have n2_ := Aside0.mk (Kd.R_drew HO_235005.out)
        have n3_ := Aside0.mk (Kd.S_drew HO_235006.out)
        have n4_ := Aside0.mk (Kd.R_drew HL239_0.out)
        have n5_ := Aside0.mk (blk_drew BK224.out)
        have n6_ := Aside0.mk (blk_drew BK225.out)
        have n7_ := Aside0.mk (blk_drew BK234.out)
        have n8_ := Aside0.mk (Kd.C_drew HR239_0.out)
        have n9_ := Aside0.mk (below_drew1 HB.out)
        have n10_ := Aside0.mk (show nb252_ ≤ (wr.drew).heap.size from zg10)
        clear HO_36
        clear HO_43
        clear HO_235005
        clear HO_235006
        clear HL239_0
        clear BK224
        clear BK225
        clear BK234
        clear HR239_0
        clear HB
        clear HNB252
        have HO_36 := n0_
        have HO_43 := n1_
        have HO_235005 := n2_
        have HO_235006 := n3_
        have HL239_0 := n4_
        have BK224 := n5_
        have BK225 := n6_
        have BK234 := n7_
        have HR239_0 := n8_
        have HB := n9_
        have HNB252 := n10_
        clear n0_ n1_ n2_ n3_ n4_ n5_ n6_ n7_ n8_ n9_ n10_
        have p240 : 0 ≤ (0 : Int) := (by omega)
        have q240 : 0 < ((rd_L1 x43_3 x45_3).length : Int) := of_decide_eq_true zg5
        obtain ⟨ad240, e240, hx240_0⟩ := Kd.at_int zg4 0 p240 q240
        cases e240
        have qi240 : (0 < (rd_L1 x43_3 x45_3).length) = True := eq_true (by omega)
        (try rw [show ((0 : Int)).toNat = 0 from rfl] at hx240_0)
        (try rw [Addr.add_zero'] at hx240_0)
        replace p240 := eq_true p240
        replace q240 := eq_true q240
        have p241 : 0 ≤ (1 : Int) := (by omega)
        have q241 : 1 < ((rd_L1 x43_3 x45_3).length : Int) := of_decide_eq_true zg5
        obtain ⟨ad241, e241, hx241_0⟩ := Kd.at_int zg4 1 p241 q241
        obtain rfl : ad240 = ad241 := (by injection e241)
        (try simp only [show (1 : Int).toNat = 1 from rfl, Nat.reduceMul, Nat.reduceEqDiff, Go.Addr.add, ↓reduceIte] at hx241_0)
        have qi241 : (1 < (rd_L1 x43_3 x45_3).length) = True := eq_true (by omega)
        (try rw [show ((1 : Int)).toNat = 1 from rfl] at hx241_0)
        replace p241 := eq_true p241
        replace q241 := eq_true q241
        refine start_ (n := 18) (S := fun w' => w'.cell? ⟨gb224, 0, none⟩ = some (.int .i64 a0_0) ∧ w'.cell? ⟨gb224, 1, none⟩ = some (.int .i64 a0_1) ∧ w'.cell? ⟨gb224, 2, none⟩ = some (.slice A0_2 l0_2.length c0_2) ∧ w'.cell? ad240 = some (.int .i64 (rd (rd_L1 x43_3 x45_3) 0)) ∧ w'.cell? ⟨ad240.block, ad240.off + 1, none⟩ = some (.int .i64 (rd (rd_L1 x43_3 x45_3) 1))) (ds := []) #[false, false, false, false, false, false, false, false, false, false, false, false, false, false, false, false, false, false] (by kernel_rfl) rfl rfl ⟨(blk_cell BK224.out 0).trans rfl, (blk_cell BK224.out 1).trans rfl, (blk_cell BK224.out 2).trans rfl, hx240_0, hx241_0⟩ (fun hHeld => ?_); refine with_tabW impl_graphOf.tab10 impl_graphOf.bits10 (fun HT_ HW_ => ?_)
        generalize wr.drew = w81 at HO_36 HO_43 HO_235005 HO_235006 HL239_0 BK224 BK225 BK234 HR239_0 HNB252 HB hx240_0 hx241_0 hHeld ⊢
        refine pure_ (i := 0) (N := some 49) (v := ?_) (a' := ?_) #[true, false, false, false, false, false, false, false, false, false, false, false, false, false, false, false, false, false] rfl rfl (any_of HT_.out (by kernel_rfl)) (fun _ _ _ h => h) (Or.inl ⟨by rfl, ?_⟩) ?_ ?_
        rotate_left
        ·intro w'
         go_simp
         with_reducible rfl
        rotate_left
        ·simp only [Act.put, List.setIfInBounds_toArray, List.set_cons_zero, List.set_cons_succ, i64_w, i32_w]
         rfl
        refine pure_ (i := 1) (N := some 50) (v := ?_) (a' := ?_) #[true, true, false, false, false, false, false, false, false, false, false, false, false, false, false, false, false, false] rfl rfl (any_of HT_.out (by kernel_rfl)) (fun _ _ _ h => h) (Or.inl ⟨by rfl, ?_⟩) ?_ ?_
        rotate_left
        ·intro w'
         go_simp
         with_reducible rfl
        rotate_left
        ·simp only [Act.put, List.setIfInBounds_toArray, List.set_cons_zero, List.set_cons_succ, i64_w, i32_w]
         rfl
        refine pure_ (i := 4) (N := some 53) (v := ?_) (a' := ?_) #[true, true, false, false, true, false, false, false, false, false, false, false, false, false, false, false, false, false] rfl rfl (any_of HT_.out (by kernel_rfl)) (fun _ _ _ h => h) (Or.inl ⟨by rfl, ?_⟩) ?_ ?_
        rotate_left
        ·intro w'
         go_simp
         with_reducible rfl
        rotate_left
        ·simp only [Act.put, List.setIfInBounds_toArray, List.set_cons_zero, List.set_cons_succ, i64_w, i32_w]
         rfl
        refine pure_ (i := 5) (N := some 54) (v := ?_) (a' := ?_) #[true, true, false, false, true, true, false, false, false, false, false, false, false, false, false, false, false, false] rfl rfl (any_of HT_.out (by kernel_rfl)) (fun _ _ _ h => h) (Or.inl ⟨by rfl, ?_⟩) ?_ ?_
        rotate_left
        ·intro w'
         go_simp
         with_reducible rfl
        rotate_left
        ·simp only [Act.put, List.setIfInBounds_toArray, List.set_cons_zero, List.set_cons_succ, i64_w, i32_w]
         rfl
        refine pure_ (i := 8) (N := some 57) (v := ?_) (a' := ?_) #[true, true, false, false, true, true, false, false, true, false, false, false, false, false, false, false, false, false] rfl rfl (any_of HT_.out (by kernel_rfl)) (fun _ _ _ h => h) (Or.inl ⟨by rfl, ?_⟩) ?_ ?_
        rotate_left
        ·intro w'
         go_simp
         with_reducible rfl
        rotate_left
        ·simp only [Act.put, List.setIfInBounds_toArray, List.set_cons_zero, List.set_cons_succ, i64_w, i32_w]
         rfl
        refine pure_ (i := 9) (N := some 58) (v := ?_) (a' := ?_) #[true, true, false, false, true, true, false, false, true, true, false, false, false, false, false, false, false, false] rfl rfl (any_of HT_.out (by kernel_rfl)) (fun _ _ _ h => h) (Or.inl ⟨by rfl, ?_⟩) ?_ ?_
        rotate_left
        ·intro w'
         go_simp
         with_reducible rfl
        rotate_left
        ·simp only [Act.put, List.setIfInBounds_toArray, List.set_cons_zero, List.set_cons_succ, i64_w, i32_w]
         rfl
        refine pure_ (i := 12) (N := some 61) (v := ?_) (a' := ?_) #[true, true, false, false, true, true, false, false, true, true, false, false, true, false, false, false, false, false] rfl rfl (any_of HT_.out (by kernel_rfl)) (fun _ _ _ h => h) (Or.inl ⟨by rfl, ?_⟩) ?_ ?_
        rotate_left
        ·intro w'
         go_simp
         with_reducible rfl
        rotate_left
        ·simp only [Act.put, List.setIfInBounds_toArray, List.set_cons_zero, List.set_cons_succ, i64_w, i32_w]
         rfl
        refine pure_ (i := 13) (N := some 62) (v := ?_) (a' := ?_) #[true, true, false, false, true, true, false, false, true, true, false, false, true, true, false, false, false, false] rfl rfl (any_of HT_.out (by kernel_rfl)) (fun _ _ _ h => h) (Or.inl ⟨by rfl, ?_⟩) ?_ ?_
        rotate_left
        ·intro w'
         go_simp
         with_reducible rfl
        rotate_left
        ·simp only [Act.put, List.setIfInBounds_toArray, List.set_cons_zero, List.set_cons_succ, i64_w, i32_w]
         rfl
        refine take_ (i := 2) (N := some 51) (v := ?_) (a' := ?_) #[true, true, true, false, true, true, false, false, true, true, false, false, true, true, false, false, false, false] rfl rfl (take_ofW HT_.out HW_.out (by kernel_rfl)) (fun _ _ _ h => h) (Or.inl ⟨by rfl, ?_⟩) hHeld ?_ ?_
        rotate_left
        ·rintro w' ⟨s0, s1, s2, s3, s4⟩
         go_simp
         with_reducible rfl
        rotate_left
        ·simp only [Act.put, List.setIfInBounds_toArray, List.set_cons_zero, List.set_cons_succ, i64_w, i32_w]
         rfl
        refine pure_ (i := 3) (N := some 52) (v := ?_) (a' := ?_) #[true, true, true, true, true, true, false, false, true, true, false, false, true, true, false, false, false, false] rfl rfl (any_of HT_.out (by kernel_rfl)) (fun _ _ _ h => h) (Or.inl ⟨by rfl, ?_⟩) ?_ ?_
        rotate_left
        ·intro w'
         go_simp
         with_reducible rfl
        rotate_left
        ·simp only [Act.put, List.setIfInBounds_toArray, List.set_cons_zero, List.set_cons_succ, i64_w, i32_w]
         rfl
        refine take_ (i := 6) (N := some 55) (v := ?_) (a' := ?_) #[true, true, true, true, true, true, true, false, true, true, false, false, true, true, false, false, false, false] rfl rfl (take_ofW HT_.out HW_.out (by kernel_rfl)) (fun _ _ _ h => h) (Or.inl ⟨by rfl, ?_⟩) hHeld ?_ ?_
        rotate_left
        ·rintro w' ⟨s0, s1, s2, s3, s4⟩
         go_simp
         with_reducible rfl
        rotate_left
        ·simp only [Act.put, List.setIfInBounds_toArray, List.set_cons_zero, List.set_cons_succ, i64_w, i32_w]
         rfl
        refine pure_ (i := 7) (N := some 56) (v := ?_) (a' := ?_) #[true, true, true, true, true, true, true, true, true, true, false, false, true, true, false, false, false, false] rfl rfl (any_of HT_.out (by kernel_rfl)) (fun _ _ _ h => h) (Or.inl ⟨by rfl, ?_⟩) ?_ ?_
        rotate_left
        ·intro w'
         go_simp
         with_reducible rfl
        rotate_left
        ·simp only [Act.put, List.setIfInBounds_toArray, List.set_cons_zero, List.set_cons_succ, i64_w, i32_w]
         rfl
        refine pure_ (i := 16) (N := some 11) (v := ?_) (a' := ?_) #[true, true, true, true, true, true, true, true, true, true, false, false, true, true, false, false, true, false] rfl rfl (any_of HT_.out (by kernel_rfl)) (fun _ _ _ h => h) (Or.inl ⟨by rfl, ?_⟩) ?_ ?_
        rotate_left
        ·intro w'
         go_simp
         with_reducible rfl
        rotate_left
        ·simp only [Act.put, List.setIfInBounds_toArray, List.set_cons_zero, List.set_cons_succ, i64_w, i32_w]
         rfl
        refine take_ (i := 10) (N := some 59) (v := ?_) (a' := ?_) #[true, true, true, true, true, true, true, true, true, true, true, false, true, true, false, false, true, false] rfl rfl (take_ofW HT_.out HW_.out (by kernel_rfl)) (fun _ _ _ h => h) (Or.inl ⟨by rfl, ?_⟩) hHeld ?_ ?_
        rotate_left
        ·rintro w' ⟨s0, s1, s2, s3, s4⟩
         go_simp
         with_reducible rfl
        rotate_left
        ·simp only [Act.put, List.setIfInBounds_toArray, List.set_cons_zero, List.set_cons_succ, i64_w, i32_w]
         rfl
        refine pure_ (i := 11) (N := some 60) (v := ?_) (a' := ?_) #[true, true, true, true, true, true, true, true, true, true, true, true, true, true, false, false, true, false] rfl rfl (any_of HT_.out (by kernel_rfl)) (fun _ _ _ h => h) (Or.inl ⟨by rfl, ?_⟩) ?_ ?_
        rotate_left
        ·intro w'
         go_simp
         with_reducible rfl
        rotate_left
        ·simp only [Act.put, List.setIfInBounds_toArray, List.set_cons_zero, List.set_cons_succ, i64_w, i32_w]
         rfl
        refine take_ (i := 14) (N := some 63) (v := ?_) (a' := ?_) #[true, true, true, true, true, true, true, true, true, true, true, true, true, true, true, false, true, false] rfl rfl (take_ofW HT_.out HW_.out (by kernel_rfl)) (fun _ _ _ h => h) (Or.inl ⟨by rfl, ?_⟩) hHeld ?_ ?_
        rotate_left
        ·rintro w' ⟨s0, s1, s2, s3, s4⟩
         go_simp
         with_reducible rfl
        rotate_left
        ·simp only [Act.put, List.setIfInBounds_toArray, List.set_cons_zero, List.set_cons_succ, i64_w, i32_w]
         rfl
        refine pure_ (i := 15) (N := some 64) (v := ?_) (a' := ?_) #[true, true, true, true, true, true, true, true, true, true, true, true, true, true, true, true, true, false] rfl rfl (any_of HT_.out (by kernel_rfl)) (fun _ _ _ h => h) (Or.inl ⟨by rfl, ?_⟩) ?_ ?_
        rotate_left
        ·intro w'
         go_simp
         with_reducible rfl
        rotate_left
        ·simp only [Act.put, List.setIfInBounds_toArray, List.set_cons_zero, List.set_cons_succ, i64_w, i32_w]
         rfl
        refine pure_ (i := 17) (N := some 12) (v := ?_) (a' := ?_) #[true, true, true, true, true, true, true, true, true, true, true, true, true, true, true, true, true, true] rfl rfl (any_of HT_.out (by kernel_rfl)) (fun _ _ _ h => h) (Or.inl ⟨by rfl, ?_⟩) ?_ ?_
        rotate_left
        ·intro w'
         go_simp
         with_reducible rfl
        rotate_left
        ·simp only [Act.put, List.setIfInBounds_toArray, List.set_cons_zero, List.set_cons_succ, i64_w, i32_w]
         rfl
        refine done_ (done_of HT_.out (by kernel_rfl)) ?_
        have hnb82 := NB224_225.out
        have hnc82 := NB225_224.out
        have hnb83 := NB224_234.out
        have hnc83 := NB234_224.out
        have hcz84_0 : w81.cell? ⟨gb224, 0, none⟩ = some (.int .i64 a0_0) := (blk_cell BK224.out 0).trans rfl
        have hcz84_1 : w81.cell? ⟨gb224, 1, none⟩ = some (.int .i64 a0_1) := (blk_cell BK224.out 1).trans rfl
        have hcz84_2 : w81.cell? ⟨gb224, 2, none⟩ = some (.slice A0_2 l0_2.length c0_2) := (blk_cell BK224.out 2).trans rfl
        have hfz84_0 := blk_frozen BK224.out 0
        have hfz84_1 := blk_frozen BK224.out 1
        have hfz84_2 := blk_frozen BK224.out 2
        try go_wp2
        (try simp only [← hl43_3])
        go_roundg k3
        case measure => have := HJ2.out; have := HK2.out; have := HK3.out; omega
        case rel => exact ⟨(x43_3), (wrap64 (x45_3 + 1)), (x235006_3), (u235006), zg22, H', ⟨zg25⟩, ⟨zg18⟩, ⟨zg21⟩, ⟨zg17⟩, ⟨zg20⟩, ⟨zg15⟩, ⟨zg14⟩, ⟨zg13⟩, ⟨zg10⟩, ⟨zg1⟩⟩
       rw [if_pos c52] at H
       have c52b0 : decide (0 ≤ (wrap64 ((wrap64 (Int.tdiv (rd t228 x38_2) a0_0)) + (rd (rd_L1 x43_3 x45_3) 1)))) = true := decide_eq_true c52
       clear c52
       by_cases c53 : (wrap64 ((wrap64 (Int.tdiv (rd t228 x38_2) a0_0)) + (rd (rd_L1 x43_3 x45_3) 1))) < a0_1
       rotate_left
       ·rw [if_neg c53] at H
        have c53b0 : decide ((wrap64 ((wrap64 (Int.tdiv (rd t228 x38_2) a0_0)) + (rd (rd_L1 x43_3 x45_3) 1))) < a0_1) = false := decide_eq_false c53
        clear c53
        have H' := Aside0.mk H
        clear H
        have p239 : 0 ≤ (x45_3 : Int) := of_decide_eq_true zg5
        have q239 : x45_3 < (x43_3.length : Int) := of_decide_eq_true zg5
        obtain ⟨ad239, A239_0, c239_0, e239, hx239_0, hl239_0, hi239_0⟩ := at_L1 (Kd.S_reads' HO_43.out).2.2 x45_3 p239 q239
        cases e239
        obtain ⟨ce239, hce239, hMe239, hcc239⟩ := Kd.S_get HO_43.out [] x45_3 p239 zg30
        obtain ⟨ve239_0, rfl, ge239_0⟩ := hMe239
        have hv239_0 := hcc239 0 _ rfl
        rw [Nat.add_zero, show ((Kd.slice 3 (Kd.int .i64))).sz = 1 from rfl, Nat.mul_one] at hv239_0
        replace hv239_0 := Option.some.inj (hv239_0.symm.trans hx239_0)
        rw [hv239_0] at ge239_0
        have HL239_0 := Aside0.mk (show Kd.R (Kd.int .i64) 3 _ _ _ _ (rd_L1 x43_3 x45_3) from ge239_0)
        clear hv239_0 ge239_0
        have HX239_0 := Aside0.mk hx239_0
        clear hcc239 hce239
        have HR239_0 := Aside0.mk hi239_0
        have HC239_0 := Aside0.mk hl239_0
        clear hi239_0 hl239_0
        replace p239 := eq_true p239
        replace q239 := eq_true q239
        try go_wp2
        have n0_ := Aside0.mk (Kd.R_drew HO_36.out)
        have n1_ := Aside0.mk (Kd.S_drew HO_43.out)
        have n2_ := Aside0.mk (Kd.R_drew HO_235005.out)
        have n3_ := Aside0.mk (Kd.S_drew HO_235006.out)
        have n4_ := Aside0.mk (Kd.R_drew HL239_0.out)
        have n5_ := Aside0.mk (blk_drew BK224.out)
        have n6_ := Aside0.mk (blk_drew BK225.out)
        have n7_ := Aside0.mk (blk_drew BK234.out)
        have n8_ := Aside0.mk (Kd.C_drew HR239_0.out)
        have n9_ := Aside0.mk (below_drew1 HB.out)
        have n10_ := Aside0.mk (show nb252_ ≤ (wr.drew).heap.size from zg10)
        clear HO_36
        clear HO_43
        clear HO_235005
        clear HO_235006
        clear HL239_0
        clear BK224
        clear BK225
        clear BK234
        clear HR239_0
        clear HB
        clear HNB252
        have HO_36 := n0_
        have HO_43 := n1_
        have HO_235005 := n2_
        have HO_235006 := n3_
        have HL239_0 := n4_
        have BK224 := n5_
        have BK225 := n6_
        have BK234 := n7_
        have HR239_0 := n8_
        have HB := n9_
        have HNB252 := n10_
        clear n0_ n1_ n2_ n3_ n4_ n5_ n6_ n7_ n8_ n9_ n10_
        have p240 : 0 ≤ (0 : Int) := (by omega)
        have q240 : 0 < ((rd_L1 x43_3 x45_3).length : Int) := of_decide_eq_true zg5
        obtain ⟨ad240, e240, hx240_0⟩ := Kd.at_int zg4 0 p240 q240
        cases e240
        have qi240 : (0 < (rd_L1 x43_3 x45_3).length) = True := eq_true (by omega)
        (try rw [show ((0 : Int)).toNat = 0 from rfl] at hx240_0)
        (try rw [Addr.add_zero'] at hx240_0)
        replace p240 := eq_true p240
        replace q240 := eq_true q240
        have p241 : 0 ≤ (1 : Int) := (by omega)
        have q241 : 1 < ((rd_L1 x43_3 x45_3).length : Int) := of_decide_eq_true zg5
        obtain ⟨ad241, e241, hx241_0⟩ := Kd.at_int zg4 1 p241 q241
        obtain rfl : ad240 = ad241 := (by injection e241)
        (try simp only [show (1 : Int).toNat = 1 from rfl, Nat.reduceMul, Nat.reduceEqDiff, Go.Addr.add, ↓reduceIte] at hx241_0)
        have qi241 : (1 < (rd_L1 x43_3 x45_3).length) = True := eq_true (by omega)
        (try rw [show ((1 : Int)).toNat = 1 from rfl] at hx241_0)
        replace p241 := eq_true p241
        replace q241 := eq_true q241
        refine start_ (n := 18) (S := fun w' => w'.cell? ⟨gb224, 0, none⟩ = some (.int .i64 a0_0) ∧ w'.cell? ⟨gb224, 1, none⟩ = some (.int .i64 a0_1) ∧ w'.cell? ⟨gb224, 2, none⟩ = some (.slice A0_2 l0_2.length c0_2) ∧ w'.cell? ad240 = some (.int .i64 (rd (rd_L1 x43_3 x45_3) 0)) ∧ w'.cell? ⟨ad240.block, ad240.off + 1, none⟩ = some (.int .i64 (rd (rd_L1 x43_3 x45_3) 1))) (ds := []) #[false, false, false, false, false, false, false, false, false, false, false, false, false, false, false, false, false, false] (by kernel_rfl) rfl rfl ⟨(blk_cell BK224.out 0).trans rfl, (blk_cell BK224.out 1).trans rfl, (blk_cell BK224.out 2).trans rfl, hx240_0, hx241_0⟩ (fun hHeld => ?_); refine with_tabW impl_graphOf.tab10 impl_graphOf.bits10 (fun HT_ HW_ => ?_)
        generalize wr.drew = w77 at HO_36 HO_43 HO_235005 HO_235006 HL239_0 BK224 BK225 BK234 HR239_0 HNB252 HB hx240_0 hx241_0 hHeld ⊢
        refine pure_ (i := 0) (N := some 49) (v := ?_) (a' := ?_) #[true, false, false, false, false, false, false, false, false, false, false, false, false, false, false, false, false, false] rfl rfl (any_of HT_.out (by kernel_rfl)) (fun _ _ _ h => h) (Or.inl ⟨by rfl, ?_⟩) ?_ ?_
        rotate_left
        ·intro w'
         go_simp
         with_reducible rfl
        rotate_left
        ·simp only [Act.put, List.setIfInBounds_toArray, List.set_cons_zero, List.set_cons_succ, i64_w, i32_w]
         rfl
        refine pure_ (i := 1) (N := some 50) (v := ?_) (a' := ?_) #[true, true, false, false, false, false, false, false, false, false, false, false, false, false, false, false, false, false] rfl rfl (any_of HT_.out (by kernel_rfl)) (fun _ _ _ h => h) (Or.inl ⟨by rfl, ?_⟩) ?_ ?_
        rotate_left
        ·intro w'
         go_simp
         with_reducible rfl
        rotate_left
        ·simp only [Act.put, List.setIfInBounds_toArray, List.set_cons_zero, List.set_cons_succ, i64_w, i32_w]
         rfl
        refine pure_ (i := 4) (N := some 53) (v := ?_) (a' := ?_) #[true, true, false, false, true, false, false, false, false, false, false, false, false, false, false, false, false, false] rfl rfl (any_of HT_.out (by kernel_rfl)) (fun _ _ _ h => h) (Or.inl ⟨by rfl, ?_⟩) ?_ ?_
        rotate_left
        ·intro w'
         go_simp
         with_reducible rfl
        rotate_left
        ·simp only [Act.put, List.setIfInBounds_toArray, List.set_cons_zero, List.set_cons_succ, i64_w, i32_w]
         rfl
        refine pure_ (i := 5) (N := some 54) (v := ?_) (a' := ?_) #[true, true, false, false, true, true, false, false, false, false, false, false, false, false, false, false, false, false] rfl rfl (any_of HT_.out (by kernel_rfl)) (fun _ _ _ h => h) (Or.inl ⟨by rfl, ?_⟩) ?_ ?_
        rotate_left
        ·intro w'
         go_simp
         with_reducible rfl
        rotate_left
        ·simp only [Act.put, List.setIfInBounds_toArray, List.set_cons_zero, List.set_cons_succ, i64_w, i32_w]
         rfl
        refine pure_ (i := 8) (N := some 57) (v := ?_) (a' := ?_) #[true, true, false, false, true, true, false, false, true, false, false, false, false, false, false, false, false, false] rfl rfl (any_of HT_.out (by kernel_rfl)) (fun _ _ _ h => h) (Or.inl ⟨by rfl, ?_⟩) ?_ ?_
        rotate_left
        ·intro w'
         go_simp
         with_reducible rfl
        rotate_left
        ·simp only [Act.put, List.setIfInBounds_toArray, List.set_cons_zero, List.set_cons_succ, i64_w, i32_w]
         rfl
        refine pure_ (i := 9) (N := some 58) (v := ?_) (a' := ?_) #[true, true, false, false, true, true, false, false, true, true, false, false, false, false, false, false, false, false] rfl rfl (any_of HT_.out (by kernel_rfl)) (fun _ _ _ h => h) (Or.inl ⟨by rfl, ?_⟩) ?_ ?_
        rotate_left
        ·intro w'
         go_simp
         with_reducible rfl
        rotate_left
        ·simp only [Act.put, List.setIfInBounds_toArray, List.set_cons_zero, List.set_cons_succ, i64_w, i32_w]
         rfl
        refine pure_ (i := 12) (N := some 61) (v := ?_) (a' := ?_) #[true, true, false, false, true, true, false, false, true, true, false, false, true, false, false, false, false, false] rfl rfl (any_of HT_.out (by kernel_rfl)) (fun _ _ _ h => h) (Or.inl ⟨by rfl, ?_⟩) ?_ ?_
        rotate_left
        ·intro w'
         go_simp
         with_reducible rfl
        rotate_left
        ·simp only [Act.put, List.setIfInBounds_toArray, List.set_cons_zero, List.set_cons_succ, i64_w, i32_w]
         rfl
        refine pure_ (i := 13) (N := some 62) (v := ?_) (a' := ?_) #[true, true, false, false, true, true, false, false, true, true, false, false, true, true, false, false, false, false] rfl rfl (any_of HT_.out (by kernel_rfl)) (fun _ _ _ h => h) (Or.inl ⟨by rfl, ?_⟩) ?_ ?_
        rotate_left
        ·intro w'
         go_simp
         with_reducible rfl
        rotate_left
        ·simp only [Act.put, List.setIfInBounds_toArray, List.set_cons_zero, List.set_cons_succ, i64_w, i32_w]
         rfl
        refine take_ (i := 2) (N := some 51) (v := ?_) (a' := ?_) #[true, true, true, false, true, true, false, false, true, true, false, false, true, true, false, false, false, false] rfl rfl (take_ofW HT_.out HW_.out (by kernel_rfl)) (fun _ _ _ h => h) (Or.inl ⟨by rfl, ?_⟩) hHeld ?_ ?_
        rotate_left
        ·rintro w' ⟨s0, s1, s2, s3, s4⟩
         go_simp
         with_reducible rfl
        rotate_left
        ·simp only [Act.put, List.setIfInBounds_toArray, List.set_cons_zero, List.set_cons_succ, i64_w, i32_w]
         rfl
        refine pure_ (i := 3) (N := some 52) (v := ?_) (a' := ?_) #[true, true, true, true, true, true, false, false, true, true, false, false, true, true, false, false, false, false] rfl rfl (any_of HT_.out (by kernel_rfl)) (fun _ _ _ h => h) (Or.inl ⟨by rfl, ?_⟩) ?_ ?_
        rotate_left
        ·intro w'
         go_simp
         with_reducible rfl
        rotate_left
        ·simp only [Act.put, List.setIfInBounds_toArray, List.set_cons_zero, List.set_cons_succ, i64_w, i32_w]
         rfl
        refine take_ (i := 6) (N := some 55) (v := ?_) (a' := ?_) #[true, true, true, true, true, true, true, false, true, true, false, false, true, true, false, false, false, false] rfl rfl (take_ofW HT_.out HW_.out (by kernel_rfl)) (fun _ _ _ h => h) (Or.inl ⟨by rfl, ?_⟩) hHeld ?_ ?_
        rotate_left
        ·rintro w' ⟨s0, s1, s2, s3, s4⟩
         go_simp
         with_reducible rfl
        rotate_left
        ·simp only [Act.put, List.setIfInBounds_toArray, List.set_cons_zero, List.set_cons_succ, i64_w, i32_w]
         rfl
        refine pure_ (i := 7) (N := some 56) (v := ?_) (a' := ?_) #[true, true, true, true, true, true, true, true, true, true, false, false, true, true, false, false, false, false] rfl rfl (any_of HT_.out (by kernel_rfl)) (fun _ _ _ h => h) (Or.inl ⟨by rfl, ?_⟩) ?_ ?_
        rotate_left
        ·intro w'
         go_simp
         with_reducible rfl
        rotate_left
        ·simp only [Act.put, List.setIfInBounds_toArray, List.set_cons_zero, List.set_cons_succ, i64_w, i32_w]
         rfl
        refine pure_ (i := 16) (N := some 11) (v := ?_) (a' := ?_) #[true, true, true, true, true, true, true, true, true, true, false, false, true, true, false, false, true, false] rfl rfl (any_of HT_.out (by kernel_rfl)) (fun _ _ _ h => h) (Or.inl ⟨by rfl, ?_⟩) ?_ ?_
        rotate_left
        ·intro w'
         go_simp
         with_reducible rfl
        rotate_left
        ·simp only [Act.put, List.setIfInBounds_toArray, List.set_cons_zero, List.set_cons_succ, i64_w, i32_w]
         rfl
        refine take_ (i := 10) (N := some 59) (v := ?_) (a' := ?_) #[true, true, true, true, true, true, true, true, true, true, true, false, true, true, false, false, true, false] rfl rfl (take_ofW HT_.out HW_.out (by kernel_rfl)) (fun _ _ _ h => h) (Or.inl ⟨by rfl, ?_⟩) hHeld ?_ ?_
        rotate_left
        ·rintro w' ⟨s0, s1, s2, s3, s4⟩
         go_simp
         with_reducible rfl
        rotate_left
        ·simp only [Act.put, List.setIfInBounds_toArray, List.set_cons_zero, List.set_cons_succ, i64_w, i32_w]
         rfl
        refine pure_ (i := 11) (N := some 60) (v := ?_) (a' := ?_) #[true, true, true, true, true, true, true, true, true, true, true, true, true, true, false, false, true, false] rfl rfl (any_of HT_.out (by kernel_rfl)) (fun _ _ _ h => h) (Or.inl ⟨by rfl, ?_⟩) ?_ ?_
        rotate_left
        ·intro w'
         go_simp
         with_reducible rfl
        rotate_left
        ·simp only [Act.put, List.setIfInBounds_toArray, List.set_cons_zero, List.set_cons_succ, i64_w, i32_w]
         rfl
        refine take_ (i := 14) (N := some 63) (v := ?_) (a' := ?_) #[true, true, true, true, true, true, true, true, true, true, true, true, true, true, true, false, true, false] rfl rfl (take_ofW HT_.out HW_.out (by kernel_rfl)) (fun _ _ _ h => h) (Or.inl ⟨by rfl, ?_⟩) hHeld ?_ ?_
        rotate_left
        ·rintro w' ⟨s0, s1, s2, s3, s4⟩
         go_simp
         with_reducible rfl
        rotate_left
        ·simp only [Act.put, List.setIfInBounds_toArray, List.set_cons_zero, List.set_cons_succ, i64_w, i32_w]
         rfl
        refine pure_ (i := 15) (N := some 64) (v := ?_) (a' := ?_) #[true, true, true, true, true, true, true, true, true, true, true, true, true, true, true, true, true, false] rfl rfl (any_of HT_.out (by kernel_rfl)) (fun _ _ _ h => h) (Or.inl ⟨by rfl, ?_⟩) ?_ ?_
        rotate_left
        ·intro w'
         go_simp
         with_reducible rfl
        rotate_left
        ·simp only [Act.put, List.setIfInBounds_toArray, List.set_cons_zero, List.set_cons_succ, i64_w, i32_w]
         rfl
        refine pure_ (i := 17) (N := some 12) (v := ?_) (a' := ?_) #[true, true, true, true, true, true, true, true, true, true, true, true, true, true, true, true, true, true] rfl rfl (any_of HT_.out (by kernel_rfl)) (fun _ _ _ h => h) (Or.inl ⟨by rfl, ?_⟩) ?_ ?_
        rotate_left
        ·intro w'
         go_simp
         with_reducible rfl
        rotate_left
        ·simp only [Act.put, List.setIfInBounds_toArray, List.set_cons_zero, List.set_cons_succ, i64_w, i32_w]
         rfl
        refine done_ (done_of HT_.out (by kernel_rfl)) ?_
        have hnb78 := NB224_225.out
        have hnc78 := NB225_224.out
        have hnb79 := NB224_234.out
        have hnc79 := NB234_224.out
        have hcz80_0 : w77.cell? ⟨gb224, 0, none⟩ = some (.int .i64 a0_0) := (blk_cell BK224.out 0).trans rfl
        have hcz80_1 : w77.cell? ⟨gb224, 1, none⟩ = some (.int .i64 a0_1) := (blk_cell BK224.out 1).trans rfl
        have hcz80_2 : w77.cell? ⟨gb224, 2, none⟩ = some (.slice A0_2 l0_2.length c0_2) := (blk_cell BK224.out 2).trans rfl
        have hfz80_0 := blk_frozen BK224.out 0
        have hfz80_1 := blk_frozen BK224.out 1
        have hfz80_2 := blk_frozen BK224.out 2
        try go_wp2
        (try simp only [← hl43_3])
        go_roundg k3
        case measure => have := HJ2.out; have := HK2.out; have := HK3.out; omega
        case rel => exact ⟨(x43_3), (wrap64 (x45_3 + 1)), (x235006_3), (u235006), zg22, H', ⟨zg25⟩, ⟨zg18⟩, ⟨zg21⟩, ⟨zg17⟩, ⟨zg20⟩, ⟨zg15⟩, ⟨zg14⟩, ⟨zg13⟩, ⟨zg10⟩, ⟨zg1⟩⟩
       rw [if_pos c53] at H
       have c53b0 : decide ((wrap64 ((wrap64 (Int.tdiv (rd t228 x38_2) a0_0)) + (rd (rd_L1 x43_3 x45_3) 1))) < a0_1) = true := decide_eq_true c53
       clear c53
       replace H := Option.bind_eq_some_iff.mp H
       obtain ⟨t242, A540, H⟩ := H
       replace H : (if t242 = true then (if 0 ≤ (rd t228 x38_2) then (if (rd t228 x38_2) < (x235006_3.length : Int) then (if (rd_L1 x235006_3 (rd t228 x38_2)).length < 17592186044416 then (impl_graphOf.l1 k3 (rd t228 x38_2) t228 (t228.length : Int) x38_2 x43_3 (t236.length : Int) (wrap64 (x45_3 + 1)) a0_0 a0_1 l0_2 a1_0 a1_1 a0_0 a0_1 l0_2 a1_0 a1_1 t228 (x235006_3.set ((rd t228 x38_2) : Int).toNat ((rd_L1 x235006_3 (rd t228 x38_2)) ++ [wrap64 ((wrap64 ((wrap64 ((wrap64 (Int.tdiv (rd t228 x38_2) a0_0)) + (rd (rd_L1 x43_3 x45_3) 1))) * a0_0)) + (wrap64 ((Int.tmod (rd t228 x38_2) a0_0) + (rd (rd_L1 x43_3 x45_3) 0))))]))) else (none)) else (none)) else (none)) else (impl_graphOf.l1 k3 (rd t228 x38_2) t228 (t228.length : Int) x38_2 x43_3 (t236.length : Int) (wrap64 (x45_3 + 1)) a0_0 a0_1 l0_2 a1_0 a1_1 a0_0 a0_1 l0_2 a1_0 a1_1 t228 x235006_3)) = some (r1, r2, r3) := H
       have A54 := Aside0.mk A540
       clear A540
       by_cases c55 : t242 = true
       rotate_left
       ·replace c55 := Bool.eq_false_iff.mpr c55
        subst c55
        have H1 : (impl_graphOf.l1 k3 (rd t228 x38_2) t228 (t228.length : Int) x38_2 x43_3 (t236.length : Int) (wrap64 (x45_3 + 1)) a0_0 a0_1 l0_2 a1_0 a1_1 a0_0 a0_1 l0_2 a1_0 a1_1 t228 x235006_3) = some (r1, r2, r3) := by rw [if_neg (show ¬ (false = true) by decide)] at H; exact H
        clear H
        have H := H1
        clear H1
        have H' := Aside0.mk H
        clear H
        have p239 : 0 ≤ (x45_3 : Int) := of_decide_eq_true zg5
        have q239 : x45_3 < (x43_3.length : Int) := of_decide_eq_true zg5
        obtain ⟨ad239, A239_0, c239_0, e239, hx239_0, hl239_0, hi239_0⟩ := at_L1 (Kd.S_reads' HO_43.out).2.2 x45_3 p239 q239
        cases e239
        obtain ⟨ce239, hce239, hMe239, hcc239⟩ := Kd.S_get HO_43.out [] x45_3 p239 zg30
        obtain ⟨ve239_0, rfl, ge239_0⟩ := hMe239
        have hv239_0 := hcc239 0 _ rfl
        rw [Nat.add_zero, show ((Kd.slice 3 (Kd.int .i64))).sz = 1 from rfl, Nat.mul_one] at hv239_0
        replace hv239_0 := Option.some.inj (hv239_0.symm.trans hx239_0)
        rw [hv239_0] at ge239_0
        have HL239_0 := Aside0.mk (show Kd.R (Kd.int .i64) 3 _ _ _ _ (rd_L1 x43_3 x45_3) from ge239_0)
        clear hv239_0 ge239_0
        have HX239_0 := Aside0.mk hx239_0
        clear hcc239 hce239
        have HR239_0 := Aside0.mk hi239_0
        have HC239_0 := Aside0.mk hl239_0
        clear hi239_0 hl239_0
        replace p239 := eq_true p239
        replace q239 := eq_true q239
        try go_wp2
        have n0_ := Aside0.mk (Kd.R_drew HO_36.out)
        have n1_ := Aside0.mk (Kd.S_drew HO_43.out)
        have n2_ := Aside0.mk (Kd.R_drew HO_235005.out)
        have n3_ := Aside0.mk (Kd.S_drew HO_235006.out)
        have n4_ := Aside0.mk (Kd.R_drew HL239_0.out)
        have n5_ := Aside0.mk (blk_drew BK224.out)
        have n6_ := Aside0.mk (blk_drew BK225.out)
        have n7_ := Aside0.mk (blk_drew BK234.out)
        have n8_ := Aside0.mk (Kd.C_drew HR239_0.out)
        have n9_ := Aside0.mk (below_drew1 HB.out)
        have n10_ := Aside0.mk (show nb252_ ≤ (wr.drew).heap.size from zg10)
        clear HO_36
        clear HO_43
        clear HO_235005
        clear HO_235006
        clear HL239_0
        clear BK224
        clear BK225
        clear BK234
        clear HR239_0
        clear HB
        clear HNB252
        have HO_36 := n0_
        have HO_43 := n1_
        have HO_235005 := n2_
        have HO_235006 := n3_
        have HL239_0 := n4_
        have BK224 := n5_
        have BK225 := n6_
        have BK234 := n7_
        have HR239_0 := n8_
        have HB := n9_
        have HNB252 := n10_
        clear n0_ n1_ n2_ n3_ n4_ n5_ n6_ n7_ n8_ n9_ n10_
        have p240 : 0 ≤ (0 : Int) := (by omega)
        have q240 : 0 < ((rd_L1 x43_3 x45_3).length : Int) := of_decide_eq_true zg5
        obtain ⟨ad240, e240, hx240_0⟩ := Kd.at_int zg4 0 p240 q240
        cases e240
        have qi240 : (0 < (rd_L1 x43_3 x45_3).length) = True := eq_true (by omega)
        (try rw [show ((0 : Int)).toNat = 0 from rfl] at hx240_0)
        (try rw [Addr.add_zero'] at hx240_0)
        replace p240 := eq_true p240
        replace q240 := eq_true q240
        have p241 : 0 ≤ (1 : Int) := (by omega)
        have q241 : 1 < ((rd_L1 x43_3 x45_3).length : Int) := of_decide_eq_true zg5
        obtain ⟨ad241, e241, hx241_0⟩ := Kd.at_int zg4 1 p241 q241
        obtain rfl : ad240 = ad241 := (by injection e241)
        (try simp only [show (1 : Int).toNat = 1 from rfl, Nat.reduceMul, Nat.reduceEqDiff, Go.Addr.add, ↓reduceIte] at hx241_0)
        have qi241 : (1 < (rd_L1 x43_3 x45_3).length) = True := eq_true (by omega)
        (try rw [show ((1 : Int)).toNat = 1 from rfl] at hx241_0)
        replace p241 := eq_true p241
        replace q241 := eq_true q241
        refine start_ (n := 18) (S := fun w' => w'.cell? ⟨gb224, 0, none⟩ = some (.int .i64 a0_0) ∧ w'.cell? ⟨gb224, 1, none⟩ = some (.int .i64 a0_1) ∧ w'.cell? ⟨gb224, 2, none⟩ = some (.slice A0_2 l0_2.length c0_2) ∧ w'.cell? ad240 = some (.int .i64 (rd (rd_L1 x43_3 x45_3) 0)) ∧ w'.cell? ⟨ad240.block, ad240.off + 1, none⟩ = some (.int .i64 (rd (rd_L1 x43_3 x45_3) 1))) (ds := []) #[false, false, false, false, false, false, false, false, false, false, false, false, false, false, false, false, false, false] (by kernel_rfl) rfl rfl ⟨(blk_cell BK224.out 0).trans rfl, (blk_cell BK224.out 1).trans rfl, (blk_cell BK224.out 2).trans rfl, hx240_0, hx241_0⟩ (fun hHeld => ?_); refine with_tabW impl_graphOf.tab10 impl_graphOf.bits10 (fun HT_ HW_ => ?_)
        generalize wr.drew = w72 at HO_36 HO_43 HO_235005 HO_235006 HL239_0 BK224 BK225 BK234 HR239_0 HNB252 HB hx240_0 hx241_0 hHeld ⊢
        refine pure_ (i := 0) (N := some 49) (v := ?_) (a' := ?_) #[true, false, false, false, false, false, false, false, false, false, false, false, false, false, false, false, false, false] rfl rfl (any_of HT_.out (by kernel_rfl)) (fun _ _ _ h => h) (Or.inl ⟨by rfl, ?_⟩) ?_ ?_
        rotate_left
        ·intro w'
         go_simp
         with_reducible rfl
        rotate_left
        ·simp only [Act.put, List.setIfInBounds_toArray, List.set_cons_zero, List.set_cons_succ, i64_w, i32_w]
         rfl
        refine pure_ (i := 1) (N := some 50) (v := ?_) (a' := ?_) #[true, true, false, false, false, false, false, false, false, false, false, false, false, false, false, false, false, false] rfl rfl (any_of HT_.out (by kernel_rfl)) (fun _ _ _ h => h) (Or.inl ⟨by rfl, ?_⟩) ?_ ?_
        rotate_left
        ·intro w'
         go_simp
         with_reducible rfl
        rotate_left
        ·simp only [Act.put, List.setIfInBounds_toArray, List.set_cons_zero, List.set_cons_succ, i64_w, i32_w]
         rfl
        refine pure_ (i := 4) (N := some 53) (v := ?_) (a' := ?_) #[true, true, false, false, true, false, false, false, false, false, false, false, false, false, false, false, false, false] rfl rfl (any_of HT_.out (by kernel_rfl)) (fun _ _ _ h => h) (Or.inl ⟨by rfl, ?_⟩) ?_ ?_
        rotate_left
        ·intro w'
         go_simp
         with_reducible rfl
        rotate_left
        ·simp only [Act.put, List.setIfInBounds_toArray, List.set_cons_zero, List.set_cons_succ, i64_w, i32_w]
         rfl
        refine pure_ (i := 5) (N := some 54) (v := ?_) (a' := ?_) #[true, true, false, false, true, true, false, false, false, false, false, false, false, false, false, false, false, false] rfl rfl (any_of HT_.out (by kernel_rfl)) (fun _ _ _ h => h) (Or.inl ⟨by rfl, ?_⟩) ?_ ?_
        rotate_left
        ·intro w'
         go_simp
         with_reducible rfl
        rotate_left
        ·simp only [Act.put, List.setIfInBounds_toArray, List.set_cons_zero, List.set_cons_succ, i64_w, i32_w]
         rfl
        refine pure_ (i := 8) (N := some 57) (v := ?_) (a' := ?_) #[true, true, false, false, true, true, false, false, true, false, false, false, false, false, false, false, false, false] rfl rfl (any_of HT_.out (by kernel_rfl)) (fun _ _ _ h => h) (Or.inl ⟨by rfl, ?_⟩) ?_ ?_
        rotate_left
        ·intro w'
         go_simp
         with_reducible rfl
        rotate_left
        ·simp only [Act.put, List.setIfInBounds_toArray, List.set_cons_zero, List.set_cons_succ, i64_w, i32_w]
         rfl
        refine pure_ (i := 9) (N := some 58) (v := ?_) (a' := ?_) #[true, true, false, false, true, true, false, false, true, true, false, false, false, false, false, false, false, false] rfl rfl (any_of HT_.out (by kernel_rfl)) (fun _ _ _ h => h) (Or.inl ⟨by rfl, ?_⟩) ?_ ?_
        rotate_left
        ·intro w'
         go_simp
         with_reducible rfl
        rotate_left
        ·simp only [Act.put, List.setIfInBounds_toArray, List.set_cons_zero, List.set_cons_succ, i64_w, i32_w]
         rfl
        refine pure_ (i := 12) (N := some 61) (v := ?_) (a' := ?_) #[true, true, false, false, true, true, false, false, true, true, false, false, true, false, false, false, false, false] rfl rfl (any_of HT_.out (by kernel_rfl)) (fun _ _ _ h => h) (Or.inl ⟨by rfl, ?_⟩) ?_ ?_
        rotate_left
        ·intro w'
         go_simp
         with_reducible rfl
        rotate_left
        ·simp only [Act.put, List.setIfInBounds_toArray, List.set_cons_zero, List.set_cons_succ, i64_w, i32_w]
         rfl
        refine pure_ (i := 13) (N := some 62) (v := ?_) (a' := ?_) #[true, true, false, false, true, true, false, false, true, true, false, false, true, true, false, false, false, false] rfl rfl (any_of HT_.out (by kernel_rfl)) (fun _ _ _ h => h) (Or.inl ⟨by rfl, ?_⟩) ?_ ?_
        rotate_left
        ·intro w'
         go_simp
         with_reducible rfl
        rotate_left
        ·simp only [Act.put, List.setIfInBounds_toArray, List.set_cons_zero, List.set_cons_succ, i64_w, i32_w]
         rfl
        refine take_ (i := 2) (N := some 51) (v := ?_) (a' := ?_) #[true, true, true, false, true, true, false, false, true, true, false, false, true, true, false, false, false, false] rfl rfl (take_ofW HT_.out HW_.out (by kernel_rfl)) (fun _ _ _ h => h) (Or.inl ⟨by rfl, ?_⟩) hHeld ?_ ?_
        rotate_left
        ·rintro w' ⟨s0, s1, s2, s3, s4⟩
         go_simp
         with_reducible rfl
        rotate_left
        ·simp only [Act.put, List.setIfInBounds_toArray, List.set_cons_zero, List.set_cons_succ, i64_w, i32_w]
         rfl
        refine pure_ (i := 3) (N := some 52) (v := ?_) (a' := ?_) #[true, true, true, true, true, true, false, false, true, true, false, false, true, true, false, false, false, false] rfl rfl (any_of HT_.out (by kernel_rfl)) (fun _ _ _ h => h) (Or.inl ⟨by rfl, ?_⟩) ?_ ?_
        rotate_left
        ·intro w'
         go_simp
         with_reducible rfl
        rotate_left
        ·simp only [Act.put, List.setIfInBounds_toArray, List.set_cons_zero, List.set_cons_succ, i64_w, i32_w]
         rfl
        refine take_ (i := 6) (N := some 55) (v := ?_) (a' := ?_) #[true, true, true, true, true, true, true, false, true, true, false, false, true, true, false, false, false, false] rfl rfl (take_ofW HT_.out HW_.out (by kernel_rfl)) (fun _ _ _ h => h) (Or.inl ⟨by rfl, ?_⟩) hHeld ?_ ?_
        rotate_left
        ·rintro w' ⟨s0, s1, s2, s3, s4⟩
         go_simp
         with_reducible rfl
        rotate_left
        ·simp only [Act.put, List.setIfInBounds_toArray, List.set_cons_zero, List.set_cons_succ, i64_w, i32_w]
         rfl
        refine pure_ (i := 7) (N := some 56) (v := ?_) (a' := ?_) #[true, true, true, true, true, true, true, true, true, true, false, false, true, true, false, false, false, false] rfl rfl (any_of HT_.out (by kernel_rfl)) (fun _ _ _ h => h) (Or.inl ⟨by rfl, ?_⟩) ?_ ?_
        rotate_left
        ·intro w'
         go_simp
         with_reducible rfl
        rotate_left
        ·simp only [Act.put, List.setIfInBounds_toArray, List.set_cons_zero, List.set_cons_succ, i64_w, i32_w]
         rfl
        refine pure_ (i := 16) (N := some 11) (v := ?_) (a' := ?_) #[true, true, true, true, true, true, true, true, true, true, false, false, true, true, false, false, true, false] rfl rfl (any_of HT_.out (by kernel_rfl)) (fun _ _ _ h => h) (Or.inl ⟨by rfl, ?_⟩) ?_ ?_
        rotate_left
        ·intro w'
         go_simp
         with_reducible rfl
        rotate_left
        ·simp only [Act.put, List.setIfInBounds_toArray, List.set_cons_zero, List.set_cons_succ, i64_w, i32_w]
         rfl
        refine take_ (i := 10) (N := some 59) (v := ?_) (a' := ?_) #[true, true, true, true, true, true, true, true, true, true, true, false, true, true, false, false, true, false] rfl rfl (take_ofW HT_.out HW_.out (by kernel_rfl)) (fun _ _ _ h => h) (Or.inl ⟨by rfl, ?_⟩) hHeld ?_ ?_
        rotate_left
        ·rintro w' ⟨s0, s1, s2, s3, s4⟩
         go_simp
         with_reducible rfl
        rotate_left
        ·simp only [Act.put, List.setIfInBounds_toArray, List.set_cons_zero, List.set_cons_succ, i64_w, i32_w]
         rfl
        refine pure_ (i := 11) (N := some 60) (v := ?_) (a' := ?_) #[true, true, true, true, true, true, true, true, true, true, true, true, true, true, false, false, true, false] rfl rfl (any_of HT_.out (by kernel_rfl)) (fun _ _ _ h => h) (Or.inl ⟨by rfl, ?_⟩) ?_ ?_
        rotate_left
        ·intro w'
         go_simp
         with_reducible rfl
        rotate_left
        ·simp only [Act.put, List.setIfInBounds_toArray, List.set_cons_zero, List.set_cons_succ, i64_w, i32_w]
         rfl
        refine take_ (i := 14) (N := some 63) (v := ?_) (a' := ?_) #[true, true, true, true, true, true, true, true, true, true, true, true, true, true, true, false, true, false] rfl rfl (take_ofW HT_.out HW_.out (by kernel_rfl)) (fun _ _ _ h => h) (Or.inl ⟨by rfl, ?_⟩) hHeld ?_ ?_
        rotate_left
        ·rintro w' ⟨s0, s1, s2, s3, s4⟩
         go_simp
         with_reducible rfl
        rotate_left
        ·simp only [Act.put, List.setIfInBounds_toArray, List.set_cons_zero, List.set_cons_succ, i64_w, i32_w]
         rfl
        refine pure_ (i := 15) (N := some 64) (v := ?_) (a' := ?_) #[true, true, true, true, true, true, true, true, true, true, true, true, true, true, true, true, true, false] rfl rfl (any_of HT_.out (by kernel_rfl)) (fun _ _ _ h => h) (Or.inl ⟨by rfl, ?_⟩) ?_ ?_
        rotate_left
        ·intro w'
         go_simp
         with_reducible rfl
        rotate_left
        ·simp only [Act.put, List.setIfInBounds_toArray, List.set_cons_zero, List.set_cons_succ, i64_w, i32_w]
         rfl
        refine pure_ (i := 17) (N := some 12) (v := ?_) (a' := ?_) #[true, true, true, true, true, true, true, true, true, true, true, true, true, true, true, true, true, true] rfl rfl (any_of HT_.out (by kernel_rfl)) (fun _ _ _ h => h) (Or.inl ⟨by rfl, ?_⟩) ?_ ?_
        rotate_left
        ·intro w'
         go_simp
         with_reducible rfl
        rotate_left
        ·simp only [Act.put, List.setIfInBounds_toArray, List.set_cons_zero, List.set_cons_succ, i64_w, i32_w]
         rfl
        refine done_ (done_of HT_.out (by kernel_rfl)) ?_
        have hnb73 := NB224_225.out
        have hnc73 := NB225_224.out
        have hnb74 := NB224_234.out
        have hnc74 := NB234_224.out
        have hcz75_0 : w72.cell? ⟨gb224, 0, none⟩ = some (.int .i64 a0_0) := (blk_cell BK224.out 0).trans rfl
        have hcz75_1 : w72.cell? ⟨gb224, 1, none⟩ = some (.int .i64 a0_1) := (blk_cell BK224.out 1).trans rfl
        have hcz75_2 : w72.cell? ⟨gb224, 2, none⟩ = some (.slice A0_2 l0_2.length c0_2) := (blk_cell BK224.out 2).trans rfl
        have hfz75_0 := blk_frozen BK224.out 0
        have hfz75_1 := blk_frozen BK224.out 1
        have hfz75_2 := blk_frozen BK224.out 2
        try go_wp2_with (first | (go_at_call 56; (with_reducible refine (impl_Board_has.calls k3 a0_0 a0_1 _ _ l0_2 (wrap64 ((wrap64 ((wrap64 ((wrap64 (Int.tdiv (rd t228 x38_2) a0_0)) + (rd (rd_L1 x43_3 x45_3) 1))) * a0_0)) + (wrap64 ((Int.tmod (rd t228 x38_2) a0_0) + (rd (rd_L1 x43_3 x45_3) 0))))) false _ ?side1 ?side2 A54.out).mono ?_); (case side1 => exact zg9); (case side2 => exact HC0_2.out); rintro e w76 ⟨rfl, hb⟩; have n0_ := Aside0.mk (Kd.R_below zg12 hb); have n1_ := Aside0.mk (Kd.S_below zg23 hb); have n2_ := Aside0.mk (Kd.R_below zg8 hb); have n3_ := Aside0.mk (Kd.S_below zg26 hb); have n4_ := Aside0.mk (Kd.R_below (by first | exact HL239_0.out | ((with_reducible repeat (first | apply Kd.R_alloc | apply Kd.R_drewN | apply Kd.R_drew)); exact HL239_0.out)) hb); have n5_ := Aside0.mk (blk_below (g := gb224) (o := .cells #[.int .i64 a0_0, .int .i64 a0_1, .slice A0_2 l0_2.length c0_2] 30 (0, 0)) zg3 hb); have n6_ := Aside0.mk (blk_below (g := gb225) (o := .cells #[.int .i64 a1_0, .int .i64 a1_1] 32 (0, 0)) zg6 hb); have n7_ := Aside0.mk (blk_below (g := gb234) (o := .cells #[.int .i64 a0_0, .int .i64 a0_1, .slice A0_2 l0_2.length c0_2, .int .i64 a1_0, .int .i64 a1_1, .slice (some ad235) t228.length co30, u235006] 78 (0, 0)) zg11 hb); have n8_ := Aside0.mk (Kd.C_below zg4 hb); have n9_ := Aside0.mk (below_step zg1 hb); have n10_ := Aside0.mk (show nb252_ ≤ w76.heap.size from zg7); clear HO_36; clear HO_43; clear HO_235005; clear HO_235006; clear HL239_0; clear BK224; clear BK225; clear BK234; clear HR239_0; clear HB; clear HNB252; have HO_36 := n0_; have HO_43 := n1_; have HO_235005 := n2_; have HO_235006 := n3_; have HL239_0 := n4_; have BK224 := n5_; have BK225 := n6_; have BK234 := n7_; have HR239_0 := n8_; have HB := n9_; have HNB252 := n10_; clear n0_ n1_ n2_ n3_ n4_ n5_ n6_ n7_ n8_ n9_ n10_; (try clear hb); (try clear hb2); (try clear hk); (try clear hi); (try clear hna_); (try clear hnb_)))
        (try simp only [← hl43_3])
        go_roundg k3
        case measure => have := HJ2.out; have := HK2.out; have := HK3.out; omega
        case rel => exact ⟨(x43_3), (wrap64 (x45_3 + 1)), (x235006_3), (u235006), zg22, H', ⟨zg25⟩, ⟨zg18⟩, ⟨zg21⟩, ⟨zg17⟩, ⟨zg20⟩, ⟨zg15⟩, ⟨zg14⟩, ⟨zg13⟩, ⟨zg10⟩, ⟨zg1⟩⟩
       subst c55
       have H1 : (if 0 ≤ (rd t228 x38_2) then (if (rd t228 x38_2) < (x235006_3.length : Int) then (if (rd_L1 x235006_3 (rd t228 x38_2)).length < 17592186044416 then (impl_graphOf.l1 k3 (rd t228 x38_2) t228 (t228.length : Int) x38_2 x43_3 (t236.length : Int) (wrap64 (x45_3 + 1)) a0_0 a0_1 l0_2 a1_0 a1_1 a0_0 a0_1 l0_2 a1_0 a1_1 t228 (x235006_3.set ((rd t228 x38_2) : Int).toNat ((rd_L1 x235006_3 (rd t228 x38_2)) ++ [wrap64 ((wrap64 ((wrap64 ((wrap64 (Int.tdiv (rd t228 x38_2) a0_0)) + (rd (rd_L1 x43_3 x45_3) 1))) * a0_0)) + (wrap64 ((Int.tmod (rd t228 x38_2) a0_0) + (rd (rd_L1 x43_3 x45_3) 0))))]))) else (none)) else (none)) else (none)) = some (r1, r2, r3) := by rw [if_pos rfl] at H; exact H
       clear H
       have H := H1
       clear H1
       by_cases c56 : 0 ≤ (rd t228 x38_2)
       rotate_left
       ·rw [if_neg c56] at H
        exact absurd H (by simp)
       rw [if_pos c56] at H
       have c56b0 : decide (0 ≤ (rd t228 x38_2)) = true := decide_eq_true c56
       clear c56
       by_cases c57 : (rd t228 x38_2) < (x235006_3.length : Int)
       rotate_left
       ·rw [if_neg c57] at H
        exact absurd H (by simp)
       rw [if_pos c57] at H
       have c57b0 : decide ((rd t228 x38_2) < (x235006_3.length : Int)) = true := decide_eq_true c57
       have c57b8 := c57b0
       (try simp only [hl43_3] at c57b8)
       clear c57
       by_cases c58 : (rd_L1 x235006_3 (rd t228 x38_2)).length < 17592186044416
       rotate_left
       ·rw [if_neg c58] at H
        exact absurd H (by simp)
       rw [if_pos c58] at H
       have LMc58 := Aside0.mk c58
       clear c58
       obtain ⟨y244, hy244⟩ : ∃ y_ : List Int, y_ = ((rd_L1 x235006_3 (rd t228 x38_2)) ++ [wrap64 ((wrap64 ((wrap64 ((wrap64 (Int.tdiv (rd t228 x38_2) a0_0)) + (rd (rd_L1 x43_3 x45_3) 1))) * a0_0)) + (wrap64 ((Int.tmod (rd t228 x38_2) a0_0) + (rd (rd_L1 x43_3 x45_3) 0))))]) := ⟨_, rfl⟩
       replace H : (impl_graphOf.l1 k3 (rd t228 x38_2) t228 (t228.length : Int) x38_2 x43_3 (t236.length : Int) (wrap64 (x45_3 + 1)) a0_0 a0_1 l0_2 a1_0 a1_1 a0_0 a0_1 l0_2 a1_0 a1_1 t228 (x235006_3.set ((rd t228 x38_2) : Int).toNat y244)) = some (r1, r2, r3) := by first | (rw [hy244]; with_reducible exact H) | (have H2_ := (Option.bind_some _ _).symm.trans H; rw [hy244]; with_reducible exact H2_) | (have H2_ := (Option.bind_some _ _).symm.trans H; with_reducible exact H2_) | with_reducible exact H | (rw [hy244]; exact H) | exact H
       have Ny244 := Aside0.mk hy244
       clear hy244
       obtain ⟨y247, hy247⟩ : ∃ y_ : List (List Int), y_ = (x235006_3.set ((rd t228 x38_2) : Int).toNat y244) := ⟨_, rfl⟩
       replace H : (impl_graphOf.l1 k3 (rd t228 x38_2) t228 (t228.length : Int) x38_2 x43_3 (t236.length : Int) (wrap64 (x45_3 + 1)) a0_0 a0_1 l0_2 a1_0 a1_1 a0_0 a0_1 l0_2 a1_0 a1_1 t228 y247) = some (r1, r2, r3) := by first | (rw [hy247]; with_reducible exact H) | (have H2_ := (Option.bind_some _ _).symm.trans H; rw [hy247]; with_reducible exact H2_) | (have H2_ := (Option.bind_some _ _).symm.trans H; with_reducible exact H2_) | with_reducible exact H | (rw [hy247]; exact H) | exact H
       have Ny247 := Aside0.mk hy247
       clear hy247
       have H' := Aside0.mk H
       clear H
       have p239 : 0 ≤ (x45_3 : Int) := of_decide_eq_true zg5
       have q239 : x45_3 < (x43_3.length : Int) := of_decide_eq_true zg5
       obtain ⟨ad239, A239_0, c239_0, e239, hx239_0, hl239_0, hi239_0⟩ := at_L1 (Kd.S_reads' HO_43.out).2.2 x45_3 p239 q239
       cases e239
       obtain ⟨ce239, hce239, hMe239, hcc239⟩ := Kd.S_get HO_43.out [] x45_3 p239 zg30
       obtain ⟨ve239_0, rfl, ge239_0⟩ := hMe239
       have hv239_0 := hcc239 0 _ rfl
       rw [Nat.add_zero, show ((Kd.slice 3 (Kd.int .i64))).sz = 1 from rfl, Nat.mul_one] at hv239_0
       replace hv239_0 := Option.some.inj (hv239_0.symm.trans hx239_0)
       rw [hv239_0] at ge239_0
       have HL239_0 := Aside0.mk (show Kd.R (Kd.int .i64) 3 _ _ _ _ (rd_L1 x43_3 x45_3) from ge239_0)
       clear hv239_0 ge239_0
       have HX239_0 := Aside0.mk hx239_0
       clear hcc239 hce239
       have HR239_0 := Aside0.mk hi239_0
       have HC239_0 := Aside0.mk hl239_0
       clear hi239_0 hl239_0
       replace p239 := eq_true p239
       replace q239 := eq_true q239
       try go_wp2
       have n0_ := Aside0.mk (Kd.R_drew HO_36.out)
       have n1_ := Aside0.mk (Kd.S_drew HO_43.out)
       have n2_ := Aside0.mk (Kd.R_drew HO_235005.out)
       have n3_ := Aside0.mk (Kd.S_drew HO_235006.out)
       have n4_ := Aside0.mk (Kd.R_drew HL239_0.out)
       have n5_ := Aside0.mk (blk_drew BK224.out)
       have n6_ := Aside0.mk (blk_drew BK225.out)
       have n7_ := Aside0.mk (blk_drew BK234.out)
       have n8_ := Aside0.mk (Kd.C_drew HR239_0.out)
       have n9_ := Aside0.mk (below_drew1 HB.out)
       have n10_ := Aside0.mk (show nb252_ ≤ (wr.drew).heap.size from zg10)
       clear HO_36
       clear HO_43
       clear HO_235005
       clear HO_235006
       clear HL239_0
       clear BK224
       clear BK225
       clear BK234
       clear HR239_0
       clear HB
       clear HNB252
       have HO_36 := n0_
       have HO_43 := n1_
       have HO_235005 := n2_
       have HO_235006 := n3_
       have HL239_0 := n4_
       have BK224 := n5_
       have BK225 := n6_
       have BK234 := n7_
       have HR239_0 := n8_
       have HB := n9_
       have HNB252 := n10_
       clear n0_ n1_ n2_ n3_ n4_ n5_ n6_ n7_ n8_ n9_ n10_
       have p240 : 0 ≤ (0 : Int) := (by omega)
       have q240 : 0 < ((rd_L1 x43_3 x45_3).length : Int) := of_decide_eq_true zg5
       obtain ⟨ad240, e240, hx240_0⟩ := Kd.at_int zg4 0 p240 q240
       cases e240
       have qi240 : (0 < (rd_L1 x43_3 x45_3).length) = True := eq_true (by omega)
       (try rw [show ((0 : Int)).toNat = 0 from rfl] at hx240_0)
       (try rw [Addr.add_zero'] at hx240_0)
       replace p240 := eq_true p240
       replace q240 := eq_true q240
       have p241 : 0 ≤ (1 : Int) := (by omega)
       have q241 : 1 < ((rd_L1 x43_3 x45_3).length : Int) := of_decide_eq_true zg5
       obtain ⟨ad241, e241, hx241_0⟩ := Kd.at_int zg4 1 p241 q241
       obtain rfl : ad240 = ad241 := (by injection e241)
       (try simp only [show (1 : Int).toNat = 1 from rfl, Nat.reduceMul, Nat.reduceEqDiff, Go.Addr.add, ↓reduceIte] at hx241_0)
       have qi241 : (1 < (rd_L1 x43_3 x45_3).length) = True := eq_true (by omega)
       (try rw [show ((1 : Int)).toNat = 1 from rfl] at hx241_0)
       replace p241 := eq_true p241
       replace q241 := eq_true q241
       refine start_ (n := 18) (S := fun w' => w'.cell? ⟨gb224, 0, none⟩ = some (.int .i64 a0_0) ∧ w'.cell? ⟨gb224, 1, none⟩ = some (.int .i64 a0_1) ∧ w'.cell? ⟨gb224, 2, none⟩ = some (.slice A0_2 l0_2.length c0_2) ∧ w'.cell? ad240 = some (.int .i64 (rd (rd_L1 x43_3 x45_3) 0)) ∧ w'.cell? ⟨ad240.block, ad240.off + 1, none⟩ = some (.int .i64 (rd (rd_L1 x43_3 x45_3) 1))) (ds := []) #[false, false, false, false, false, false, false, false, false, false, false, false, false, false, false, false, false, false] (by kernel_rfl) rfl rfl ⟨(blk_cell BK224.out 0).trans rfl, (blk_cell BK224.out 1).trans rfl, (blk_cell BK224.out 2).trans rfl, hx240_0, hx241_0⟩ (fun hHeld => ?_); refine with_tabW impl_graphOf.tab10 impl_graphOf.bits10 (fun HT_ HW_ => ?_)
       generalize wr.drew = w60 at HO_36 HO_43 HO_235005 HO_235006 HL239_0 BK224 BK225 BK234 HR239_0 HNB252 HB hx240_0 hx241_0 hHeld ⊢
       refine pure_ (i := 0) (N := some 49) (v := ?_) (a' := ?_) #[true, false, false, false, false, false, false, false, false, false, false, false, false, false, false, false, false, false] rfl rfl (any_of HT_.out (by kernel_rfl)) (fun _ _ _ h => h) (Or.inl ⟨by rfl, ?_⟩) ?_ ?_
       rotate_left
       ·intro w'
        go_simp
        with_reducible rfl
       rotate_left
       ·simp only [Act.put, List.setIfInBounds_toArray, List.set_cons_zero, List.set_cons_succ, i64_w, i32_w]
        rfl
       refine pure_ (i := 1) (N := some 50) (v := ?_) (a' := ?_) #[true, true, false, false, false, false, false, false, false, false, false, false, false, false, false, false, false, false] rfl rfl (any_of HT_.out (by kernel_rfl)) (fun _ _ _ h => h) (Or.inl ⟨by rfl, ?_⟩) ?_ ?_
       rotate_left
       ·intro w'
        go_simp
        with_reducible rfl
       rotate_left
       ·simp only [Act.put, List.setIfInBounds_toArray, List.set_cons_zero, List.set_cons_succ, i64_w, i32_w]
        rfl
       refine pure_ (i := 4) (N := some 53) (v := ?_) (a' := ?_) #[true, true, false, false, true, false, false, false, false, false, false, false, false, false, false, false, false, false] rfl rfl (any_of HT_.out (by kernel_rfl)) (fun _ _ _ h => h) (Or.inl ⟨by rfl, ?_⟩) ?_ ?_
       rotate_left
       ·intro w'
        go_simp
        with_reducible rfl
       rotate_left
       ·simp only [Act.put, List.setIfInBounds_toArray, List.set_cons_zero, List.set_cons_succ, i64_w, i32_w]
        rfl
       refine pure_ (i := 5) (N := some 54) (v := ?_) (a' := ?_) #[true, true, false, false, true, true, false, false, false, false, false, false, false, false, false, false, false, false] rfl rfl (any_of HT_.out (by kernel_rfl)) (fun _ _ _ h => h) (Or.inl ⟨by rfl, ?_⟩) ?_ ?_
       rotate_left
       ·intro w'
        go_simp
        with_reducible rfl
       rotate_left
       ·simp only [Act.put, List.setIfInBounds_toArray, List.set_cons_zero, List.set_cons_succ, i64_w, i32_w]
        rfl
       refine pure_ (i := 8) (N := some 57) (v := ?_) (a' := ?_) #[true, true, false, false, true, true, false, false, true, false, false, false, false, false, false, false, false, false] rfl rfl (any_of HT_.out (by kernel_rfl)) (fun _ _ _ h => h) (Or.inl ⟨by rfl, ?_⟩) ?_ ?_
       rotate_left
       ·intro w'
        go_simp
        with_reducible rfl
       rotate_left
       ·simp only [Act.put, List.setIfInBounds_toArray, List.set_cons_zero, List.set_cons_succ, i64_w, i32_w]
        rfl
       refine pure_ (i := 9) (N := some 58) (v := ?_) (a' := ?_) #[true, true, false, false, true, true, false, false, true, true, false, false, false, false, false, false, false, false] rfl rfl (any_of HT_.out (by kernel_rfl)) (fun _ _ _ h => h) (Or.inl ⟨by rfl, ?_⟩) ?_ ?_
       rotate_left
       ·intro w'
        go_simp
        with_reducible rfl
       rotate_left
       ·simp only [Act.put, List.setIfInBounds_toArray, List.set_cons_zero, List.set_cons_succ, i64_w, i32_w]
        rfl
       refine pure_ (i := 12) (N := some 61) (v := ?_) (a' := ?_) #[true, true, false, false, true, true, false, false, true, true, false, false, true, false, false, false, false, false] rfl rfl (any_of HT_.out (by kernel_rfl)) (fun _ _ _ h => h) (Or.inl ⟨by rfl, ?_⟩) ?_ ?_
       rotate_left
       ·intro w'
        go_simp
        with_reducible rfl
       rotate_left
       ·simp only [Act.put, List.setIfInBounds_toArray, List.set_cons_zero, List.set_cons_succ, i64_w, i32_w]
        rfl
       refine pure_ (i := 13) (N := some 62) (v := ?_) (a' := ?_) #[true, true, false, false, true, true, false, false, true, true, false, false, true, true, false, false, false, false] rfl rfl (any_of HT_.out (by kernel_rfl)) (fun _ _ _ h => h) (Or.inl ⟨by rfl, ?_⟩) ?_ ?_
       rotate_left
       ·intro w'
        go_simp
        with_reducible rfl
       rotate_left
       ·simp only [Act.put, List.setIfInBounds_toArray, List.set_cons_zero, List.set_cons_succ, i64_w, i32_w]
        rfl
       refine take_ (i := 2) (N := some 51) (v := ?_) (a' := ?_) #[true, true, true, false, true, true, false, false, true, true, false, false, true, true, false, false, false, false] rfl rfl (take_ofW HT_.out HW_.out (by kernel_rfl)) (fun _ _ _ h => h) (Or.inl ⟨by rfl, ?_⟩) hHeld ?_ ?_
       rotate_left
       ·rintro w' ⟨s0, s1, s2, s3, s4⟩
        go_simp
        with_reducible rfl
       rotate_left
       ·simp only [Act.put, List.setIfInBounds_toArray, List.set_cons_zero, List.set_cons_succ, i64_w, i32_w]
        rfl
       refine pure_ (i := 3) (N := some 52) (v := ?_) (a' := ?_) #[true, true, true, true, true, true, false, false, true, true, false, false, true, true, false, false, false, false] rfl rfl (any_of HT_.out (by kernel_rfl)) (fun _ _ _ h => h) (Or.inl ⟨by rfl, ?_⟩) ?_ ?_
       rotate_left
       ·intro w'
        go_simp
        with_reducible rfl
       rotate_left
       ·simp only [Act.put, List.setIfInBounds_toArray, List.set_cons_zero, List.set_cons_succ, i64_w, i32_w]
        rfl
       refine take_ (i := 6) (N := some 55) (v := ?_) (a' := ?_) #[true, true, true, true, true, true, true, false, true, true, false, false, true, true, false, false, false, false] rfl rfl (take_ofW HT_.out HW_.out (by kernel_rfl)) (fun _ _ _ h => h) (Or.inl ⟨by rfl, ?_⟩) hHeld ?_ ?_
       rotate_left
       ·rintro w' ⟨s0, s1, s2, s3, s4⟩
        go_simp
        with_reducible rfl
       rotate_left
       ·simp only [Act.put, List.setIfInBounds_toArray, List.set_cons_zero, List.set_cons_succ, i64_w, i32_w]
        rfl
       refine pure_ (i := 7) (N := some 56) (v := ?_) (a' := ?_) #[true, true, true, true, true, true, true, true, true, true, false, false, true, true, false, false, false, false] rfl rfl (any_of HT_.out (by kernel_rfl)) (fun _ _ _ h => h) (Or.inl ⟨by rfl, ?_⟩) ?_ ?_
       rotate_left
       ·intro w'
        go_simp
        with_reducible rfl
       rotate_left
       ·simp only [Act.put, List.setIfInBounds_toArray, List.set_cons_zero, List.set_cons_succ, i64_w, i32_w]
        rfl
       refine pure_ (i := 16) (N := some 11) (v := ?_) (a' := ?_) #[true, true, true, true, true, true, true, true, true, true, false, false, true, true, false, false, true, false] rfl rfl (any_of HT_.out (by kernel_rfl)) (fun _ _ _ h => h) (Or.inl ⟨by rfl, ?_⟩) ?_ ?_
       rotate_left
       ·intro w'
        go_simp
        with_reducible rfl
       rotate_left
       ·simp only [Act.put, List.setIfInBounds_toArray, List.set_cons_zero, List.set_cons_succ, i64_w, i32_w]
        rfl
       refine take_ (i := 10) (N := some 59) (v := ?_) (a' := ?_) #[true, true, true, true, true, true, true, true, true, true, true, false, true, true, false, false, true, false] rfl rfl (take_ofW HT_.out HW_.out (by kernel_rfl)) (fun _ _ _ h => h) (Or.inl ⟨by rfl, ?_⟩) hHeld ?_ ?_
       rotate_left
       ·rintro w' ⟨s0, s1, s2, s3, s4⟩
        go_simp
        with_reducible rfl
       rotate_left
       ·simp only [Act.put, List.setIfInBounds_toArray, List.set_cons_zero, List.set_cons_succ, i64_w, i32_w]
        rfl
       refine pure_ (i := 11) (N := some 60) (v := ?_) (a' := ?_) #[true, true, true, true, true, true, true, true, true, true, true, true, true, true, false, false, true, false] rfl rfl (any_of HT_.out (by kernel_rfl)) (fun _ _ _ h => h) (Or.inl ⟨by rfl, ?_⟩) ?_ ?_
       rotate_left
       ·intro w'
        go_simp
        with_reducible rfl
       rotate_left
       ·simp only [Act.put, List.setIfInBounds_toArray, List.set_cons_zero, List.set_cons_succ, i64_w, i32_w]
        rfl
       refine take_ (i := 14) (N := some 63) (v := ?_) (a' := ?_) #[true, true, true, true, true, true, true, true, true, true, true, true, true, true, true, false, true, false] rfl rfl (take_ofW HT_.out HW_.out (by kernel_rfl)) (fun _ _ _ h => h) (Or.inl ⟨by rfl, ?_⟩) hHeld ?_ ?_
       rotate_left
       ·rintro w' ⟨s0, s1, s2, s3, s4⟩
        go_simp
        with_reducible rfl
       rotate_left
       ·simp only [Act.put, List.setIfInBounds_toArray, List.set_cons_zero, List.set_cons_succ, i64_w, i32_w]
        rfl
       refine pure_ (i := 15) (N := some 64) (v := ?_) (a' := ?_) #[true, true, true, true, true, true, true, true, true, true, true, true, true, true, true, true, true, false] rfl rfl (any_of HT_.out (by kernel_rfl)) (fun _ _ _ h => h) (Or.inl ⟨by rfl, ?_⟩) ?_ ?_
       rotate_left
       ·intro w'
        go_simp
        with_reducible rfl
       rotate_left
       ·simp only [Act.put, List.setIfInBounds_toArray, List.set_cons_zero, List.set_cons_succ, i64_w, i32_w]
        rfl
       refine pure_ (i := 17) (N := some 12) (v := ?_) (a' := ?_) #[true, true, true, true, true, true, true, true, true, true, true, true, true, true, true, true, true, true] rfl rfl (any_of HT_.out (by kernel_rfl)) (fun _ _ _ h => h) (Or.inl ⟨by rfl, ?_⟩) ?_ ?_
       rotate_left
       ·intro w'
        go_simp
        with_reducible rfl
       rotate_left
       ·simp only [Act.put, List.setIfInBounds_toArray, List.set_cons_zero, List.set_cons_succ, i64_w, i32_w]
        rfl
       refine done_ (done_of HT_.out (by kernel_rfl)) ?_
       have hnb61 := NB224_225.out
       have hnc61 := NB225_224.out
       have hnb62 := NB224_234.out
       have hnc62 := NB234_224.out
       have hcz63_0 : w60.cell? ⟨gb224, 0, none⟩ = some (.int .i64 a0_0) := (blk_cell BK224.out 0).trans rfl
       have hcz63_1 : w60.cell? ⟨gb224, 1, none⟩ = some (.int .i64 a0_1) := (blk_cell BK224.out 1).trans rfl
       have hcz63_2 : w60.cell? ⟨gb224, 2, none⟩ = some (.slice A0_2 l0_2.length c0_2) := (blk_cell BK224.out 2).trans rfl
       have hfz63_0 := blk_frozen BK224.out 0
       have hfz63_1 := blk_frozen BK224.out 1
       have hfz63_2 := blk_frozen BK224.out 2
       try go_wp2_with (first | (go_at_call 56; (with_reducible refine (impl_Board_has.calls k3 a0_0 a0_1 _ _ l0_2 (wrap64 ((wrap64 ((wrap64 ((wrap64 (Int.tdiv (rd t228 x38_2) a0_0)) + (rd (rd_L1 x43_3 x45_3) 1))) * a0_0)) + (wrap64 ((Int.tmod (rd t228 x38_2) a0_0) + (rd (rd_L1 x43_3 x45_3) 0))))) true _ ?side1 ?side2 A54.out).mono ?_); (case side1 => exact zg9); (case side2 => exact HC0_2.out); rintro e w64 ⟨rfl, hb⟩; have n0_ := Aside0.mk (Kd.R_below zg12 hb); have n1_ := Aside0.mk (Kd.S_below zg23 hb); have n2_ := Aside0.mk (Kd.R_below zg8 hb); have n3_ := Aside0.mk (Kd.S_below zg26 hb); have n4_ := Aside0.mk (Kd.R_below (by first | exact HL239_0.out | ((with_reducible repeat (first | apply Kd.R_alloc | apply Kd.R_drewN | apply Kd.R_drew)); exact HL239_0.out)) hb); have n5_ := Aside0.mk (blk_below (g := gb224) (o := .cells #[.int .i64 a0_0, .int .i64 a0_1, .slice A0_2 l0_2.length c0_2] 30 (0, 0)) zg3 hb); have n6_ := Aside0.mk (blk_below (g := gb225) (o := .cells #[.int .i64 a1_0, .int .i64 a1_1] 32 (0, 0)) zg6 hb); have n7_ := Aside0.mk (blk_below (g := gb234) (o := .cells #[.int .i64 a0_0, .int .i64 a0_1, .slice A0_2 l0_2.length c0_2, .int .i64 a1_0, .int .i64 a1_1, .slice (some ad235) t228.length co30, u235006] 78 (0, 0)) zg11 hb); have n8_ := Aside0.mk (Kd.C_below zg4 hb); have n9_ := Aside0.mk (below_step zg1 hb); have n10_ := Aside0.mk (show nb252_ ≤ w64.heap.size from zg7); clear HO_36; clear HO_43; clear HO_235005; clear HO_235006; clear HL239_0; clear BK224; clear BK225; clear BK234; clear HR239_0; clear HB; clear HNB252; have HO_36 := n0_; have HO_43 := n1_; have HO_235005 := n2_; have HO_235006 := n3_; have HL239_0 := n4_; have BK224 := n5_; have BK225 := n6_; have BK234 := n7_; have HR239_0 := n8_; have HB := n9_; have HNB252 := n10_; clear n0_ n1_ n2_ n3_ n4_ n5_ n6_ n7_ n8_ n9_ n10_; (try clear hb); (try clear hb2); (try clear hk); (try clear hi); (try clear hna_); (try clear hnb_)))
       have n0_ := Aside0.mk (Kd.R_drew HO_36.out)
       have n1_ := Aside0.mk (Kd.S_drew HO_43.out)
       have n2_ := Aside0.mk (Kd.R_drew HO_235005.out)
       have n3_ := Aside0.mk (Kd.S_drew HO_235006.out)
       have n4_ := Aside0.mk (Kd.R_drew HL239_0.out)
       have n5_ := Aside0.mk (blk_drew BK224.out)
       have n6_ := Aside0.mk (blk_drew BK225.out)
       have n7_ := Aside0.mk (blk_drew BK234.out)
       have n8_ := Aside0.mk (Kd.C_drew HR239_0.out)
       have n9_ := Aside0.mk (below_drew1 HB.out)
       have n10_ := Aside0.mk (show nb252_ ≤ (w64.drew).heap.size from zg10)
       clear HO_36
       clear HO_43
       clear HO_235005
       clear HO_235006
       clear HL239_0
       clear BK224
       clear BK225
       clear BK234
       clear HR239_0
       clear HB
       clear HNB252
       have HO_36 := n0_
       have HO_43 := n1_
       have HO_235005 := n2_
       have HO_235006 := n3_
       have HL239_0 := n4_
       have BK224 := n5_
       have BK225 := n6_
       have BK234 := n7_
       have HR239_0 := n8_
       have HB := n9_
       have HNB252 := n10_
       clear n0_ n1_ n2_ n3_ n4_ n5_ n6_ n7_ n8_ n9_ n10_
       obtain ⟨Ao66, co66, eo66⟩ := Kd.S_slice HO_235006.out
       (first | subst eo66 | (injection eo66 with f1_ f2_ f3_; have f4_ := f1_.symm; have f5_ := f3_.symm; clear f1_ f2_ f3_; subst f4_; subst f5_))
       have p243 : 0 ≤ ((rd t228 x38_2) : Int) := of_decide_eq_true zg5
       have q243 : (rd t228 x38_2) < (x235006_3.length : Int) := of_decide_eq_true zg5
       obtain ⟨ad243, A243_0, c243_0, e243, hx243_0, hl243_0, hi243_0⟩ := at_L1 (Kd.S_reads' HO_235006.out).2.2 (rd t228 x38_2) p243 q243
       cases e243
       obtain ⟨ce243, hce243, hMe243, hcc243⟩ := Kd.S_get HO_235006.out [] (rd t228 x38_2) p243 (by first | exact q243 | exact of_decide_eq_true zg5 | (have e_ := (Kd.S_reads' HO_235006.out).1; omega))
       obtain ⟨ve243_0, rfl, ge243_0⟩ := hMe243
       have hv243_0 := hcc243 0 _ rfl
       rw [Nat.add_zero, show ((Kd.slice 3 (Kd.int .i64))).sz = 1 from rfl, Nat.mul_one] at hv243_0
       replace hv243_0 := Option.some.inj (hv243_0.symm.trans hx243_0)
       rw [hv243_0] at ge243_0
       have HL243_0 := Aside0.mk (show Kd.R (Kd.int .i64) 3 _ _ _ _ (rd_L1 x235006_3 (rd t228 x38_2)) from ge243_0)
       clear hv243_0 ge243_0
       have HX243_0 := Aside0.mk hx243_0
       clear hcc243 hce243
       have HR243_0 := Aside0.mk hi243_0
       have HC243_0 := Aside0.mk hl243_0
       clear hi243_0 hl243_0
       replace p243 := eq_true p243
       replace q243 := eq_true q243
       obtain ⟨go67, co67, eo67, gb67, gl67, cl67, HG67⟩ := Kd.S_form HO_235006.out (by have h_ : ((rd t228 x38_2) : Int) < ((x235006_3.length : Int) : Int) := of_decide_eq_true zg5; have h2_ : 0 ≤ ((rd t228 x38_2) : Int) := (of_decide_eq_true zg5); omega)
       (first | cases eo67 | (injection eo67 with ea_ en_ ec_; (first | subst ea_ | (injection ea_ with ea_; subst ea_)); subst ec_; clear en_))
       have GB67 := Aside0.mk gb67
       have GG67 := Aside0.mk HG67
       clear gb67 gl67 HG67
       (try simp only [add_plain] at *)
       (first | simp only [add_plain] at hx243_0 | skip)
       obtain ⟨oki67, ce67, hcl67, hM67, hcc67, _, _, hH67⟩ := Kd.S_elem HO_235006.out [] ((rd t228 x38_2) : Int) (of_decide_eq_true zg5) (by have h_ : ((rd t228 x38_2) : Int) < ((x235006_3.length : Int) : Int) := of_decide_eq_true zg5; first | exact h_ | (have e_ := (Kd.S_reads' HO_235006.out).1; omega) | simpa using h_)
       obtain ⟨ve67_0, rfl, ge67_0⟩ := hM67
       have hv67 := hcc67 0 _ rfl
       have hX67 := HX243_0.out
       (try simp only [add_plain] at hX67)
       (try simp only [Nat.add_zero] at hv67)
       (try rw [show ((Kd.slice 3 (Kd.int .i64))).sz = 1 from rfl, Nat.mul_one] at hv67)
       replace hv67 := Option.some.inj (hv67.symm.trans hX67)
       subst hv67
       clear hX67 hcc67 hcl67
       have UU67 := Aside0.mk (show Kd.R (Kd.int .i64) 3 _ w.heap.size oki67 (.slice A243_0 (rd_L1 x235006_3 (rd t228 x38_2)).length c243_0) (rd_L1 x235006_3 (rd t228 x38_2)) from ge67_0)
       have HH67 := Aside0.mk hH67
       have HN67 := Aside0.mk (Kd.S_reads' HO_235006.out).1
       clear hH67 ge67_0
       refine start_ (n := 22) (S := fun w' => w'.cell? ⟨gb234, 0, none⟩ = some (.int .i64 a0_0) ∧ w'.cell? ⟨gb234, 1, none⟩ = some (.int .i64 a0_1) ∧ w'.cell? ⟨gb234, 2, none⟩ = some (.slice A0_2 l0_2.length c0_2) ∧ w'.cell? ⟨gb234, 3, none⟩ = some (.int .i64 a1_0) ∧ w'.cell? ⟨gb234, 4, none⟩ = some (.int .i64 a1_1) ∧ w'.cell? ⟨gb234, 5, none⟩ = some (.slice (some ad235) t228.length co30) ∧ w'.cell? ⟨gb234, 6, none⟩ = some (.slice (some ⟨go67, 0, none⟩) x235006_3.length co66) ∧ w'.cell? ⟨gb224, 0, none⟩ = some (.int .i64 a0_0) ∧ w'.cell? ⟨gb224, 1, none⟩ = some (.int .i64 a0_1) ∧ w'.cell? ⟨gb224, 2, none⟩ = some (.slice A0_2 l0_2.length c0_2) ∧ w'.cell? ⟨go67, ((rd t228 x38_2)).toNat, none⟩ = some (.slice A243_0 (rd_L1 x235006_3 (rd t228 x38_2)).length c243_0)) (ds := [21]) #[false, false, false, false, false, false, false, false, false, false, false, false, false, false, false, false, false, false, false, false, false, false] (by kernel_rfl) rfl rfl ⟨(blk_cell BK234.out 0).trans rfl, (blk_cell BK234.out 1).trans rfl, (blk_cell BK234.out 2).trans rfl, (blk_cell BK234.out 3).trans rfl, (blk_cell BK234.out 4).trans rfl, (blk_cell BK234.out 5).trans rfl, (blk_cell BK234.out 6).trans rfl, (blk_cell BK224.out 0).trans rfl, (blk_cell BK224.out 1).trans rfl, (blk_cell BK224.out 2).trans rfl, hx243_0⟩ (fun hHeld => ?_); refine with_tabW impl_graphOf.tab12 impl_graphOf.bits12 (fun HT_ HW_ => ?_)
       generalize w64.drew = w65 at HO_36 HO_43 HO_235005 HO_235006 HL239_0 BK224 BK225 BK234 HR239_0 HNB252 HB GG67 HH67 HL243_0 HR243_0 HX243_0 UU67 hx243_0 hHeld ⊢
       refine pure_ (i := 0) (N := some 93) (v := ?_) (a' := ?_) #[true, false, false, false, false, false, false, false, false, false, false, false, false, false, false, false, false, false, false, false, false, false] rfl rfl (any_of HT_.out (by kernel_rfl)) (fun _ _ _ h => h) (Or.inl ⟨by rfl, ?_⟩) ?_ ?_
       rotate_left
       ·intro w'
        go_simp
        with_reducible rfl
       rotate_left
       ·simp only [Act.put, List.setIfInBounds_toArray, List.set_cons_zero, List.set_cons_succ, i64_w, i32_w]
        rfl
       refine pure_ (i := 1) (N := some 94) (v := ?_) (a' := ?_) #[true, true, false, false, false, false, false, false, false, false, false, false, false, false, false, false, false, false, false, false, false, false] rfl rfl (any_of HT_.out (by kernel_rfl)) (fun _ _ _ h => h) (Or.inl ⟨by rfl, ?_⟩) ?_ ?_
       rotate_left
       ·intro w'
        go_simp
        with_reducible rfl
       rotate_left
       ·simp only [Act.put, List.setIfInBounds_toArray, List.set_cons_zero, List.set_cons_succ, i64_w, i32_w]
        rfl
       refine pure_ (i := 2) (N := some 95) (v := ?_) (a' := ?_) #[true, true, true, false, false, false, false, false, false, false, false, false, false, false, false, false, false, false, false, false, false, false] rfl rfl (any_of HT_.out (by kernel_rfl)) (fun _ _ _ h => h) (Or.inl ⟨by rfl, ?_⟩) ?_ ?_
       rotate_left
       ·intro w'
        go_simp
        with_reducible rfl
       rotate_left
       ·simp only [Act.put, List.setIfInBounds_toArray, List.set_cons_zero, List.set_cons_succ, i64_w, i32_w]
        rfl
       refine pure_ (i := 4) (N := some 97) (v := ?_) (a' := ?_) #[true, true, true, false, true, false, false, false, false, false, false, false, false, false, false, false, false, false, false, false, false, false] rfl rfl (any_of HT_.out (by kernel_rfl)) (fun _ _ _ h => h) (Or.inl ⟨by rfl, ?_⟩) ?_ ?_
       rotate_left
       ·intro w'
        go_simp
        with_reducible rfl
       rotate_left
       ·simp only [Act.put, List.setIfInBounds_toArray, List.set_cons_zero, List.set_cons_succ, i64_w, i32_w]
        rfl
       refine pure_ (i := 5) (N := some 98) (v := ?_) (a' := ?_) #[true, true, true, false, true, true, false, false, false, false, false, false, false, false, false, false, false, false, false, false, false, false] rfl rfl (any_of HT_.out (by kernel_rfl)) (fun _ _ _ h => h) (Or.inl ⟨by rfl, ?_⟩) ?_ ?_
       rotate_left
       ·intro w'
        go_simp
        with_reducible rfl
       rotate_left
       ·simp only [Act.put, List.setIfInBounds_toArray, List.set_cons_zero, List.set_cons_succ, i64_w, i32_w]
        rfl
       refine pure_ (i := 6) (N := some 99) (v := ?_) (a' := ?_) #[true, true, true, false, true, true, true, false, false, false, false, false, false, false, false, false, false, false, false, false, false, false] rfl rfl (any_of HT_.out (by kernel_rfl)) (fun _ _ _ h => h) (Or.inl ⟨by rfl, ?_⟩) ?_ ?_
       rotate_left
       ·intro w'
        go_simp
        with_reducible rfl
       rotate_left
       ·simp only [Act.put, List.setIfInBounds_toArray, List.set_cons_zero, List.set_cons_succ, i64_w, i32_w]
        rfl
       refine pure_ (i := 7) (N := some 100) (v := ?_) (a' := ?_) #[true, true, true, false, true, true, true, true, false, false, false, false, false, false, false, false, false, false, false, false, false, false] rfl rfl (any_of HT_.out (by kernel_rfl)) (fun _ _ _ h => h) (Or.inl ⟨by rfl, ?_⟩) ?_ ?_
       rotate_left
       ·intro w'
        go_simp
        with_reducible rfl
       rotate_left
       ·simp only [Act.put, List.setIfInBounds_toArray, List.set_cons_zero, List.set_cons_succ, i64_w, i32_w]
        rfl
       refine pure_ (i := 9) (N := some 102) (v := ?_) (a' := ?_) #[true, true, true, false, true, true, true, true, false, true, false, false, false, false, false, false, false, false, false, false, false, false] rfl rfl (any_of HT_.out (by kernel_rfl)) (fun _ _ _ h => h) (Or.inl ⟨by rfl, ?_⟩) ?_ ?_
       rotate_left
       ·intro w'
        go_simp
        with_reducible rfl
       rotate_left
       ·simp only [Act.put, List.setIfInBounds_toArray, List.set_cons_zero, List.set_cons_succ, i64_w, i32_w]
        rfl
       refine pure_ (i := 12) (N := some 105) (v := ?_) (a' := ?_) #[true, true, true, false, true, true, true, true, false, true, false, false, true, false, false, false, false, false, false, false, false, false] rfl rfl (any_of HT_.out (by kernel_rfl)) (fun _ _ _ h => h) (Or.inl ⟨by rfl, ?_⟩) ?_ ?_
       rotate_left
       ·intro w'
        go_simp
        with_reducible rfl
       rotate_left
       ·simp only [Act.put, List.setIfInBounds_toArray, List.set_cons_zero, List.set_cons_succ, i64_w, i32_w]
        rfl
       refine pure_ (i := 13) (N := some 106) (v := ?_) (a' := ?_) #[true, true, true, false, true, true, true, true, false, true, false, false, true, true, false, false, false, false, false, false, false, false] rfl rfl (any_of HT_.out (by kernel_rfl)) (fun _ _ _ h => h) (Or.inl ⟨by rfl, ?_⟩) ?_ ?_
       rotate_left
       ·intro w'
        go_simp
        with_reducible rfl
       rotate_left
       ·simp only [Act.put, List.setIfInBounds_toArray, List.set_cons_zero, List.set_cons_succ, i64_w, i32_w]
        rfl
       refine pure_ (i := 16) (N := some 109) (v := ?_) (a' := ?_) #[true, true, true, false, true, true, true, true, false, true, false, false, true, true, false, false, true, false, false, false, false, false] rfl rfl (any_of HT_.out (by kernel_rfl)) (fun _ _ _ h => h) (Or.inl ⟨by rfl, ?_⟩) ?_ ?_
       rotate_left
       ·intro w'
        go_simp
        with_reducible rfl
       rotate_left
       ·simp only [Act.put, List.setIfInBounds_toArray, List.set_cons_zero, List.set_cons_succ, i64_w, i32_w]
        rfl
       refine take_ (i := 3) (N := some 96) (v := ?_) (a' := ?_) #[true, true, true, true, true, true, true, true, false, true, false, false, true, true, false, false, true, false, false, false, false, false] rfl rfl (take_ofW HT_.out HW_.out (by kernel_rfl)) (fun _ _ _ h => h) (Or.inl ⟨by rfl, ?_⟩) hHeld ?_ ?_
       rotate_left
       ·rintro w' ⟨s0, s1, s2, s3, s4, s5, s6, s7, s8, s9, s10⟩
        go_simp
        with_reducible rfl
       rotate_left
       ·simp only [Act.put, List.setIfInBounds_toArray, List.set_cons_zero, List.set_cons_succ, i64_w, i32_w]
        rfl
       refine take_ (i := 8) (N := some 101) (v := ?_) (a' := ?_) #[true, true, true, true, true, true, true, true, true, true, false, false, true, true, false, false, true, false, false, false, false, false] rfl rfl (take_ofW HT_.out HW_.out (by kernel_rfl)) (fun _ _ _ h => h) (Or.inl ⟨by rfl, ?_⟩) hHeld ?_ ?_
       rotate_left
       ·rintro w' ⟨s0, s1, s2, s3, s4, s5, s6, s7, s8, s9, s10⟩
        go_simp
        with_reducible rfl
       rotate_left
       ·simp only [Act.put, List.setIfInBounds_toArray, List.set_cons_zero, List.set_cons_succ, i64_w, i32_w]
        rfl
       refine pure_ (i := 10) (N := some 103) (v := ?_) (a' := ?_) #[true, true, true, true, true, true, true, true, true, true, true, false, true, true, false, false, true, false, false, false, false, false] rfl rfl (any_of HT_.out (by kernel_rfl)) (fun _ _ _ h => h) (Or.inl ⟨by rfl, ?_⟩) ?_ ?_
       rotate_left
       ·intro w'
        go_simp
        with_reducible rfl
       rotate_left
       ·simp only [Act.put, List.setIfInBounds_toArray, List.set_cons_zero, List.set_cons_succ, i64_w, i32_w]
        rfl
       refine take_ (i := 11) (N := some 104) (v := ?_) (a' := ?_) #[true, true, true, true, true, true, true, true, true, true, true, true, true, true, false, false, true, false, false, false, false, false] rfl rfl (take_ofW HT_.out HW_.out (by kernel_rfl)) (fun _ _ _ h => h) (Or.inl ⟨by rfl, ?_⟩) hHeld ?_ ?_
       rotate_left
       ·rintro w' ⟨s0, s1, s2, s3, s4, s5, s6, s7, s8, s9, s10⟩
        go_simp
        with_reducible rfl
       rotate_left
       ·simp only [Act.put, List.setIfInBounds_toArray, List.set_cons_zero, List.set_cons_succ, i64_w, i32_w]
        rfl
       refine take_ (i := 14) (N := some 107) (v := ?_) (a' := ?_) #[true, true, true, true, true, true, true, true, true, true, true, true, true, true, true, false, true, false, false, false, false, false] rfl rfl (take_ofW HT_.out HW_.out (by kernel_rfl)) (fun _ _ _ h => h) (Or.inl ⟨by rfl, ?_⟩) hHeld ?_ ?_
       rotate_left
       ·rintro w' ⟨s0, s1, s2, s3, s4, s5, s6, s7, s8, s9, s10⟩
        go_simp
        with_reducible rfl
       rotate_left
       ·simp only [Act.put, List.setIfInBounds_toArray, List.set_cons_zero, List.set_cons_succ, i64_w, i32_w]
        rfl
       refine pure_ (i := 15) (N := some 108) (v := ?_) (a' := ?_) #[true, true, true, true, true, true, true, true, true, true, true, true, true, true, true, true, true, false, false, false, false, false] rfl rfl (any_of HT_.out (by kernel_rfl)) (fun _ _ _ h => h) (Or.inl ⟨by rfl, ?_⟩) ?_ ?_
       rotate_left
       ·intro w'
        go_simp
        with_reducible rfl
       rotate_left
       ·simp only [Act.put, List.setIfInBounds_toArray, List.set_cons_zero, List.set_cons_succ, i64_w, i32_w]
        rfl
       refine pure_ (i := 17) (N := some 110) (v := ?_) (a' := ?_) #[true, true, true, true, true, true, true, true, true, true, true, true, true, true, true, true, true, true, false, false, false, false] rfl rfl (any_of HT_.out (by kernel_rfl)) (fun _ _ _ h => h) (Or.inl ⟨by rfl, ?_⟩) ?_ ?_
       rotate_left
       ·intro w'
        go_simp
        with_reducible rfl
       rotate_left
       ·simp only [Act.put, List.setIfInBounds_toArray, List.set_cons_zero, List.set_cons_succ, i64_w, i32_w]
        rfl
       refine one_ (i := 18) (N := some 111) #[true, true, true, true, true, true, true, true, true, true, true, true, true, true, true, true, true, true, true, false, false, false] rfl rfl (one_of HT_.out (by kernel_rfl)) (by decide) (fun K hK => ?_)
       refine value_ (w1 := ?_) (v := ?_) (by rfl) rfl ?_ ?_
       rotate_left 2
       ·go_simp
        constructor
        ·rfl
        rfl
       refine hK.out _ _ ⟨(blk_cell (blk_alloc BK234.out _) 0).trans rfl, (blk_cell (blk_alloc BK234.out _) 1).trans rfl, (blk_cell (blk_alloc BK234.out _) 2).trans rfl, (blk_cell (blk_alloc BK234.out _) 3).trans rfl, (blk_cell (blk_alloc BK234.out _) 4).trans rfl, (blk_cell (blk_alloc BK234.out _) 5).trans rfl, (blk_cell (blk_alloc BK234.out _) 6).trans rfl, (blk_cell (blk_alloc BK224.out _) 0).trans rfl, (blk_cell (blk_alloc BK224.out _) 1).trans rfl, (blk_cell (blk_alloc BK224.out _) 2).trans rfl, (World.cell?_alloc_lt _ _ _ (World.block_lt_of_cell? _ _ (hHeld.2.2.2.2.2.2.2.2.2.2))).trans (hHeld.2.2.2.2.2.2.2.2.2.2)⟩ (fun hHeld => ?_)
       clear hK K
       refine norm_ (a' := ?_) ?_ ?_
       rotate_left
       ·show Act.put _ (some 111) _ = _
        simp only [Act.put, List.setIfInBounds_toArray, List.set_cons_zero, List.set_cons_succ, i64_w, i32_w]
        rfl
       refine one_ (i := 19) (N := some 112) #[true, true, true, true, true, true, true, true, true, true, true, true, true, true, true, true, true, true, true, true, false, false] rfl rfl (one_of HT_.out (by kernel_rfl)) (by decide) (fun K hK => ?_)
       refine Kd.R_append_step (Kd.int .i64) (w0 := w) w.heap.size (by rfl) (.tmp 104) (.tmp 111) 22 3 (.int .i64 0) 8 rfl Try.underlying22 info3 rfl (by decide) (by omega) (.slice A243_0 (rd_L1 x235006_3 (rd t228 x38_2)).length c243_0) (rd_L1 x235006_3 (rd t228 x38_2)) (wrap64 ((wrap64 ((wrap64 ((wrap64 (Int.tdiv (rd t228 x38_2) a0_0)) + (rd (rd_L1 x43_3 x45_3) 1))) * a0_0)) + (wrap64 ((Int.tmod (rd t228 x38_2) a0_0) + (rd (rd_L1 x43_3 x45_3) 0))))) [.int .i64 (wrap64 ((wrap64 ((wrap64 ((wrap64 (Int.tdiv (rd t228 x38_2) a0_0)) + (rd (rd_L1 x43_3 x45_3) 1))) * a0_0)) + (wrap64 ((Int.tmod (rd t228 x38_2) a0_0) + (rd (rd_L1 x43_3 x45_3) 0)))))] (fun k_ => oki67 k_ ∨ ((fun k_ => some k_ ≠ (.slice (some ad235) t228.length co30 : Value).ownBlock ∧ some k_ ≠ (.slice (some ad239) x43_3.length co43 : Value).ownBlock ∧ some k_ ≠ (.slice (some ad235) t228.length co30 : Value).ownBlock ∧ k_ ≠ (rngIn na252_ nb252_ k_))) k_ ∧ w65.heap.size ≤ k_) (fun _ => False) rfl rfl ?aP (fun _ hk => hk.elim) ?aF ?aO ?aB ?aS ?aL ?_
       (case aP => exact rfl)
       (case aB => exact zg1)
       (case aF => exact (fun k_ hk => .inr ⟨⟨Kd.fresh' (Kd.R_lt zg12) k_ hk, Kd.fresh' (Kd.S_lt zg23) k_ hk, Kd.fresh' (Kd.R_lt zg8) k_ hk, rng_fresh HNB252.out hk⟩, hk⟩))
       (case aO => exact (by (with_reducible repeat (first | apply Kd.R_alloc | apply Kd.R_drewN | apply Kd.R_drew)); exact Kd.R_mono UU67.out (fun _ hk => .inl hk)))
       (case aS => exact (below_size zg1))
       (case aL => have := LMc58.out; omega)
       intro v245 w68 ho hb hg hat
       (first | have HS10_ := cell_grown hg (hHeld.2.2.2.2.2.2.2.2.2.2) zg28 | have HS10_ := cell_grown hg (cell_unalloc (hHeld.2.2.2.2.2.2.2.2.2.2) (by first | (rw [add_block]; exact Kd.S_lt HO_235006.out _ rfl) | (show (Addr.add _ _).block < _; rw [add_block]; exact Kd.S_lt HO_235006.out _ rfl) | exact Kd.S_lt HO_235006.out _ rfl)) zg28)
       rw [← Ny244.out] at ho
       have n0_ := Aside0.mk (Kd.R_grown2 zg12 rfl hg (fun k_ e_ => (HL243_0.out.1 k_ e_).1.1))
       have n1_ := Aside0.mk (Kd.S_grown zg23 hg (by exact fun k_ hk_ e_ => rng_apart (hk_.2.2.2) ((HL243_0.out.1 k_ e_.symm).1.2.2.2)))
       have n2_ := Aside0.mk (Kd.R_grown2 zg8 rfl hg (fun k_ e_ => (HL243_0.out.1 k_ e_).1.2.2.1))
       have n3_ := Aside0.mk (blk_grown (g := gb224) (o := .cells #[.int .i64 a0_0, .int .i64 a0_1, .slice A0_2 l0_2.length c0_2] 30 (0, 0)) zg3 hg (Kd.R_ne HL243_0.out BK224.out (by decide)))
       have n4_ := Aside0.mk (blk_grown (g := gb225) (o := .cells #[.int .i64 a1_0, .int .i64 a1_1] 32 (0, 0)) zg6 hg (Kd.R_ne HL243_0.out BK225.out (by decide)))
       have n5_ := Aside0.mk (blk_grown (g := gb234) (o := .cells #[.int .i64 a0_0, .int .i64 a0_1, .slice A0_2 l0_2.length c0_2, .int .i64 a1_0, .int .i64 a1_1, .slice (some ad235) t228.length co30, .slice (some ⟨go67, 0, none⟩) x235006_3.length co66] 78 (0, 0)) zg11 hg (Kd.R_ne HL243_0.out BK234.out (by decide)))
       have n6_ := Aside0.mk (hb)
       have n7_ := Aside0.mk (Kd.H_grown (Kd.H_widen (by repeat (first | exact HH67.out | refine Kd.H_alloc ?_ _ | refine Kd.H_drewN ?_ _ | refine Kd.H_drew ?_))) hg (fun k_ e_ => .inl (UU67.out.1 k_ e_)))
       have n8_ := Aside0.mk (ho)
       have n9_ := Aside0.mk (show nb252_ ≤ w68.heap.size from zg7)
       clear HO_36
       clear HO_43
       clear HO_235005
       clear BK224
       clear BK225
       clear BK234
       clear HB
       clear HH67
       clear HNB252
       clear HO_235006
       clear UU67
       clear HL239_0
       clear HL243_0
       have HO_36 := n0_
       have HO_43 := n1_
       have HO_235005 := n2_
       have BK224 := n3_
       have BK225 := n4_
       have BK234 := n5_
       have HB := n6_
       have HH67 := n7_
       have HO246 := n8_
       have HNB252 := n9_
       clear n0_ n1_ n2_ n3_ n4_ n5_ n6_ n7_ n8_ n9_
       clear ho hb hg hat
       have p59 : 0 ≤ ((rd t228 x38_2) : Int) := of_decide_eq_true zg5
       have q59 : ((rd t228 x38_2) : Int) < ((x235006_3.length : Int) : Int) := of_decide_eq_true zg5
       replace p59 := eq_true p59
       replace q59 := eq_true q59
       obtain ⟨Ao71, co71, eo71⟩ := Kd.R_slice HO246.out
       (first | subst eo71 | (injection eo71 with f1_ f2_ f3_; have f4_ := f1_.symm; have f5_ := f3_.symm; clear f1_ f2_ f3_; subst f4_; subst f5_))
       obtain ⟨_, _, hraw69, _, _, hcc69, _⟩ := Kd.H_raw HH67.out (of_decide_eq_true zg5) (by have h_ : ((rd t228 x38_2) : Int) < ((x235006_3.length : Int) : Int) := of_decide_eq_true zg5; first | exact h_ | (have e_ := (HN67.out); omega) | simpa using h_)
       obtain ⟨_, hfr69⟩ := Kd.H_at HH67.out (of_decide_eq_true zg5) (by have h_ : ((rd t228 x38_2) : Int) < ((x235006_3.length : Int) : Int) := of_decide_eq_true zg5; first | exact h_ | (have e_ := (HN67.out); omega) | simpa using h_)
       have hx69_0 := hcc69 0 _ rfl
       have hf69_0 := hfr69 0
       (try simp only [Nat.add_zero] at hx69_0 hf69_0)
       (try rw [show ((Kd.slice 3 (Kd.int .i64))).sz = 1 from rfl, Nat.mul_one] at hx69_0)
       (try rw [show ((Kd.slice 3 (Kd.int .i64))).sz = 1 from rfl, Nat.mul_one] at hf69_0)
       have HP69 := Kd.S_seg0 HH67.out (of_decide_eq_true zg5) (by have h_ : ((rd t228 x38_2) : Int) < ((x235006_3.length : Int) : Int) := of_decide_eq_true zg5; first | exact h_ | (have e_ := (HN67.out); omega) | simpa using h_) (seg := [.slice Ao71 y244.length co71]) (j := 0) (show 1 ≤ 1 from by decide) (x' := y244) (Kd.M_row HO246.out) (fun _ hk => hk)
       (try simp only [show ((Kd.slice 3 (Kd.int .i64))).sz = 1 from rfl, Nat.mul_one, Nat.add_zero] at HP69)
       clear hcc69 hfr69
       have HNB224_go67 := Aside0.mk (show gb224 ≠ go67 from by have h_ := Kd.R_ne hraw69 BK224.out (by decide); intro e_; exact h_ (by rw [e_]; rfl))
       have HNB225_go67 := Aside0.mk (show gb225 ≠ go67 from by have h_ := Kd.R_ne hraw69 BK225.out (by decide); intro e_; exact h_ (by rw [e_]; rfl))
       have HNB234_go67 := Aside0.mk (show gb234 ≠ go67 from by have h_ := Kd.R_ne hraw69 BK234.out (by decide); intro e_; exact h_ (by rw [e_]; rfl))
       have HS69 := HP69.1
       rw [← Ny247.out] at HS69
       have HQ69 := Aside0.mk HS69
       obtain ⟨_, hgg69⟩ := Kd.R_typed hraw69 go67 rfl
       have GG69_ := Aside0.mk hgg69
       clear HP69 HS69 hgg69
       refine hK.out _ _ ⟨(blk_cell BK234.out 0).trans rfl, (blk_cell BK234.out 1).trans rfl, (blk_cell BK234.out 2).trans rfl, (blk_cell BK234.out 3).trans rfl, (blk_cell BK234.out 4).trans rfl, (blk_cell BK234.out 5).trans rfl, (blk_cell BK234.out 6).trans rfl, (blk_cell BK224.out 0).trans rfl, (blk_cell BK224.out 1).trans rfl, (blk_cell BK224.out 2).trans rfl, HS10_⟩ (fun hHeld => ?_)
       clear hK K
       refine norm_ (a' := ?_) ?_ ?_
       rotate_left
       ·show Act.put _ (some 112) _ = _
        simp only [Act.put, List.setIfInBounds_toArray, List.set_cons_zero, List.set_cons_succ, i64_w, i32_w]
        rfl
       refine pure_ (i := 20) (N := some 113) (v := ?_) (a' := ?_) #[true, true, true, true, true, true, true, true, true, true, true, true, true, true, true, true, true, true, true, true, true, false] rfl rfl (any_of HT_.out (by kernel_rfl)) (fun _ _ _ h => h) (Or.inl ⟨by rfl, ?_⟩) ?_ ?_
       rotate_left
       ·intro w'
        go_simp
        with_reducible rfl
       rotate_left
       ·simp only [Act.put, List.setIfInBounds_toArray, List.set_cons_zero, List.set_cons_succ, i64_w, i32_w]
        rfl
       refine last_ (i := 21) (N := none) #[true, true, true, true, true, true, true, true, true, true, true, true, true, true, true, true, true, true, true, true, true, true] rfl rfl (one_of HT_.out (by kernel_rfl)) (by decide) (fun K hK => ?_)
       refine skip_ (w1 := ?_) (by rfl) rfl ?_ ?_
       rotate_left
       ·go_simp
        rfl
       refine hK.out _ _ ?_
       clear hK K
       refine done_ (done_of HT_.out (by kernel_rfl)) ?_
       try go_wp2
       (try simp only [← hl43_3])
       go_roundg k3
       case measure => have := HJ2.out; have := HK2.out; have := HK3.out; omega
       case rel => exact ⟨(x43_3), (wrap64 (x45_3 + 1)), (y247), (.slice (some ⟨go67, 0, none⟩) x235006_3.length co66), zg22, H', ⟨zg25⟩, ⟨by (try simp only [hl43_3]); (with_reducible repeat (first | apply Kd.R_alloc | apply Kd.R_drewN | apply Kd.R_drew)); exact Kd.R_mono (Kd.R_far (p := ⟨go67, ((rd t228 x38_2) : Int).toNat, none⟩) (Kd.R_types HO_36.out GG69_.out (by decide)) (fun _ hk => hk.2) (.slice Ao71 y244.length co71)) (fun _ hk => trivial)⟩, ⟨by (try simp only [hl43_3]); (with_reducible repeat (first | apply Kd.S_alloc | apply Kd.S_drewN | apply Kd.S_drew)); exact Kd.S_mono (Kd.S_far (p := ⟨go67, ((rd t228 x38_2) : Int).toNat, none⟩) (Kd.S_mono HO_43.out (fun k_ hk => (⟨hk, fun e_ => hk.2.2.1 (by rw [e_]; rfl)⟩ : _ ∧ k_ ≠ go67))) (fun _ hk => hk.2) (.slice Ao71 y244.length co71)) (fun _ hk => ⟨hk.1.1, ⟨hk.1.2.1, ⟨hk.1.2.2.1, hk.1.2.2.2⟩⟩⟩)⟩, ⟨by (try simp only [hl43_3]); (with_reducible repeat (first | apply Kd.R_alloc | apply Kd.R_drewN | apply Kd.R_drew)); exact Kd.R_mono (Kd.R_far (p := ⟨go67, ((rd t228 x38_2) : Int).toNat, none⟩) (Kd.R_types HO_235005.out GG69_.out (by decide)) (fun _ hk => hk.2) (.slice Ao71 y244.length co71)) (fun _ hk => trivial)⟩, ⟨by (try simp only [hl43_3]); first | exact HQ69.out | ((with_reducible repeat (first | apply Kd.S_alloc | apply Kd.S_drewN | apply Kd.S_drew)); exact HQ69.out)⟩, ⟨by (try simp only [hl43_3]); (with_reducible repeat (first | refine blk_drewN ?_ _ | refine blk_drew ?_ | refine blk_alloc ?_ _)); refine blk_far ?_ HNB224_go67.out _; first | exact BK224.out | ((with_reducible repeat (first | refine blk_drewN ?_ _ | refine blk_drew ?_ | refine blk_alloc ?_ _)); exact BK224.out)⟩, ⟨by (try simp only [hl43_3]); (with_reducible repeat (first | refine blk_drewN ?_ _ | refine blk_drew ?_ | refine blk_alloc ?_ _)); refine blk_far ?_ HNB225_go67.out _; first | exact BK225.out | ((with_reducible repeat (first | refine blk_drewN ?_ _ | refine blk_drew ?_ | refine blk_alloc ?_ _)); exact BK225.out)⟩, ⟨by (try simp only [hl43_3]); (with_reducible repeat (first | refine blk_drewN ?_ _ | refine blk_drew ?_ | refine blk_alloc ?_ _)); refine blk_far ?_ HNB234_go67.out _; first | exact BK234.out | ((with_reducible repeat (first | refine blk_drewN ?_ _ | refine blk_drew ?_ | refine blk_alloc ?_ _)); exact BK234.out)⟩, ⟨zg10⟩, ⟨by repeat (first | (with_reducible first | exact HB.out | apply below_alloc | apply pw_below_drewN | apply below_drew1 | refine below_set ?_ GB67.out | refine below_set ?_ GE224.out | refine below_set ?_ GE225.out | refine below_set ?_ GE234.out) | exact HB.out)⟩⟩

end Go.Proofs.Ytmfbhhicioepjaa.Q

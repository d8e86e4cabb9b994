/- Written by a program of this session: functions of the translation as plain Lean functions, each with a proof that the call does what the plain function says; the conditions stand in each theorem. -/
import Derived.Test.YtfjomkjngolboaaQ0
import Derived.Test.YtfjomkjngolboaaQ1
import Derived.Test.YtfjomkjngolboaaQ4
import Derived.Test.YtfjomkjngolboaaQ8
import Derived.Test.YtfjomkjngolboaaQ9
import Derived.Test.YtfjomkjngolboaaHMark
namespace Go.Proofs.Ytfjomkjngolboaa.Q
open Go.RowKit Go.Proofs.YtfjomkjngolboaaW.PrintWords Go.Proofs.YtfjomkjngolboaaW.PrintLast Go.Proofs.YtfjomkjngolboaaW.PrintMore
attribute [local go_sem] max2_int min2_int max_two min_two max_three min_three max_four min_four   -- for this text's walks alone
set_option linter.unusedVariables false
set_option linter.unusedSimpArgs false

theorem zk1 {p : Prop} (h : p := by repeat (first | (with_reducible first | exact HB.out | apply below_alloc | apply pw_below_drewN | apply below_drew1 | refine below_set ?_ GE323.out | refine below_set ?_ GE324.out | refine below_set ?_ GE342.out) | exact HB.out)) : p := h
theorem zk2 {p : Prop} (h : p := by first | exact BK323.out | ((with_reducible repeat (first | refine blk_drewN ?_ _ | refine blk_drew ?_ | refine blk_alloc ?_ _)); exact BK323.out)) : p := h
theorem zk3 {p : Prop} (h : p := by first | exact BK324.out | ((with_reducible repeat (first | refine blk_drewN ?_ _ | refine blk_drew ?_ | refine blk_alloc ?_ _)); exact BK324.out)) : p := h
theorem zk4 {p : Prop} (h : p := by (try simp only [List.map_toArray, List.map_cons, List.map_nil]); first | done | rfl | (simp only [List.length_drop, List.length_take]; rfl)) : p := h
theorem zk5 {p : Prop} (h : p := by first | exact Nat.le_trans HNB377.out hkp.1 | exact Nat.le_trans HNB377.out hb.size | exact Nat.le_trans HNB377.out hg.size | exact Nat.le_trans HNB377.out (Nat.le_trans (by simp) hb.size) | exact Nat.le_trans HNB377.out (Nat.le_trans (by simp) hg.size) | (rw [hw]; simpa using HNB377.out) | exact HNB377.out) : p := h
theorem zk6 {p : Prop} (h : p := by first | exact BK342.out | ((with_reducible repeat (first | refine blk_drewN ?_ _ | refine blk_drew ?_ | refine blk_alloc ?_ _)); exact BK342.out)) : p := h
theorem zk7 {p : Prop} (h : p := by repeat (first | (with_reducible first | exact HB.out | apply below_alloc | apply pw_below_drewN | apply below_drew1 | refine below_set ?_ GE323.out | refine below_set ?_ GE324.out) | exact HB.out)) : p := h
theorem zk8 {p : Prop} (h : p := by first | exact HO_343002.out | ((with_reducible repeat (first | apply Kd.R_alloc | apply Kd.R_drewN | apply Kd.R_drew)); exact HO_343002.out)) : p := h
theorem zk9 {p : Prop} (h : p := by repeat (first | exact (Kd.S_reads' HO_9.out).2.2 | (with_reducible refine Kd.C_alloc ?_ _) | (with_reducible refine Kd.C_drewN ?_ _) | (with_reducible refine Kd.C_drew ?_))) : p := h
theorem zk10 {p : Prop} (h : p := by first | exact HO_9.out | ((with_reducible repeat (first | apply Kd.S_alloc | apply Kd.S_drewN | apply Kd.S_drew)); exact HO_9.out)) : p := h
theorem zk11 {p : Prop} (h : p := by repeat (first | exact (Kd.C_below HR0_2.out HB.out) | (with_reducible refine Kd.C_alloc ?_ _) | (with_reducible refine Kd.C_drewN ?_ _) | (with_reducible refine Kd.C_drew ?_))) : p := h
theorem zk12 {p : Prop} (h : p := by first | rfl | (simp [errW_none, errW_some] <;> rfl) | (simp [*, errW_none, errW_some] <;> rfl)) : p := h
theorem zk13 {p : Prop} (h : p := by first | exact HO330.out | ((with_reducible repeat (first | apply Kd.R_alloc | apply Kd.R_drewN | apply Kd.R_drew)); exact HO330.out)) : p := h
theorem zk14 {p : Prop} (h : p := by repeat (first | (with_reducible first | exact HB.out | apply below_alloc | apply pw_below_drewN | apply below_drew1 | refine below_set ?_ GE323.out) | exact HB.out)) : p := h
theorem zk15 {p : Prop} (h : p := by first | exact HO_6.out | ((with_reducible repeat (first | apply Kd.S_alloc | apply Kd.S_drewN | apply Kd.S_drew)); exact HO_6.out)) : p := h
theorem zk16 {p : Prop} (h : p := by repeat (first | (with_reducible first | exact HB.out | apply below_alloc | apply pw_below_drewN | apply below_drew1) | exact HB.out)) : p := h
theorem zk17 {p : Prop} (h : p := by first | exact HNB377.out | exact Nat.le_trans HNB377.out (by simp)) : p := h
theorem zk18 {p : Prop} (h : p := by repeat (first | exact (Kd.S_reads' HO_6.out).2.2 | (with_reducible refine Kd.C_alloc ?_ _) | (with_reducible refine Kd.C_drewN ?_ _) | (with_reducible refine Kd.C_drew ?_))) : p := h
theorem zk19 {p : Prop} (h : p := by (try simp only [List.map_toArray, List.map_cons, List.map_nil]); first | done | (rw [show t360.length = t345.length from (Kd.S_reads' HO_9.out).1.symm] <;> rfl) | rfl | (simp only [List.length_drop, List.length_take]; rfl)) : p := h
theorem zk20 {p : Prop} (h : p := by first | exact HO335.out | ((with_reducible repeat (first | apply Kd.S_alloc | apply Kd.S_drewN | apply Kd.S_drew)); exact HO335.out)) : p := h
theorem zk21 {p : Prop} (h : p := by (with_reducible repeat (first | apply Kd.S_alloc | apply Kd.S_drewN | apply Kd.S_drew)); exact Kd.S_mono HO_9.out (fun _ hk => ⟨hk.1, ⟨hk.2.1, hk.2.2.2⟩⟩)) : p := h
theorem zk22 {p : Prop} (h : p := by (with_reducible repeat (first | apply Kd.S_alloc | apply Kd.S_drewN | apply Kd.S_drew)); exact Kd.S_mono HO_6.out (fun _ hk => ⟨hk.1, ⟨hk.2.1, hk.2.2.2⟩⟩)) : p := h
theorem zk23 {p : Prop} (h : p := by first | exact HO341.out | ((with_reducible repeat (first | apply Kd.R_alloc | apply Kd.R_drewN | apply Kd.R_drew)); exact HO341.out)) : p := h
theorem zk24 {p : Prop} (h : p := by (with_reducible repeat (first | apply Kd.R_alloc | apply Kd.R_drewN | apply Kd.R_drew)); exact Kd.R_mono HO_343002.out (fun _ hk => trivial)) : p := h
theorem zk25 {p : Prop} (h : p := by first | rfl | (simp; done) | (simp [*]; done)) : p := h
theorem zk26 {p : Prop} (h : p := by first | exact HO366.out | ((with_reducible repeat (first | apply Kd.R_alloc | apply Kd.R_drewN | apply Kd.R_drew)); exact HO366.out)) : p := h
theorem zk27 {p : Prop} (h : p := by rw [show t360.length = t345.length from (Kd.S_reads' HO_9.out).1.symm]; exact (Kd.S_reads' HO_9.out).2.1) : p := h
theorem zk28 {p : Prop} (h : p := by (try simp only [hl343002_48]); (with_reducible repeat (first | apply Kd.S_alloc | apply Kd.S_drewN | apply Kd.S_drew)); exact Kd.S_mono HO_9.out (fun _ hk => ⟨hk.1.1.2.1, hk.1.1.2.2⟩)) : p := h
theorem zk29 {p : Prop} (h : p := by (try simp only [hl343002_48]); (with_reducible repeat (first | apply Kd.R_alloc | apply Kd.R_drewN | apply Kd.R_drew)); exact Kd.R_mono HO_343002.out (fun _ hk => trivial)) : p := h
theorem zk30 {p : Prop} (h : p := by repeat (first | exact (Kd.R_reads' HO_343002.out).2.2 | (with_reducible refine Kd.C_alloc ?_ _) | (with_reducible refine Kd.C_drewN ?_ _) | (with_reducible refine Kd.C_drew ?_))) : p := h
theorem zk31 {p : Prop} (h : p := by (with_reducible repeat (first | apply Kd.S_alloc | apply Kd.S_drewN | apply Kd.S_drew)); exact Kd.S_mono HO347.out (fun _ hk => ⟨hk.1.2, ⟨hk.2, hk.1.1.1.2⟩⟩)) : p := h
theorem zk32 {p : Prop} (h : p := by (with_reducible repeat (first | apply Kd.S_alloc | apply Kd.S_drewN | apply Kd.S_drew)); exact Kd.S_mono HO335.out (fun _ hk => ⟨hk.2, ⟨hk.1.1.2, hk.1.2⟩⟩)) : p := h
theorem zk33 {p : Prop} (h : p := by repeat (first | exact (Kd.S_reads' HO371.out).2.2 | (with_reducible refine Kd.C_alloc ?_ _) | (with_reducible refine Kd.C_drewN ?_ _) | (with_reducible refine Kd.C_drew ?_))) : p := h
theorem zk34 {p : Prop} (h : p := by repeat (first | exact (Kd.S_reads' HO347.out).2.2 | (with_reducible refine Kd.C_alloc ?_ _) | (with_reducible refine Kd.C_drewN ?_ _) | (with_reducible refine Kd.C_drew ?_))) : p := h
theorem zk35 {p : Prop} (h : p := by repeat (first | exact (Kd.S_reads' HO335.out).2.2 | (with_reducible refine Kd.C_alloc ?_ _) | (with_reducible refine Kd.C_drewN ?_ _) | (with_reducible refine Kd.C_drew ?_))) : p := h
theorem zk36 {p : Prop} (h : p := by repeat (first | exact (Kd.R_reads' HO354.out).2.2 | (with_reducible refine Kd.C_alloc ?_ _) | (with_reducible refine Kd.C_drewN ?_ _) | (with_reducible refine Kd.C_drew ?_))) : p := h
theorem zk37 {p : Prop} (h : p := by (try simp only [hl343002_48]); first | exact BK342.out | ((with_reducible repeat (first | refine blk_drewN ?_ _ | refine blk_drew ?_ | refine blk_alloc ?_ _)); exact BK342.out)) : p := h
theorem zk38 {p : Prop} (h : p := by (try simp only [hl343002_48]); first | exact BK324.out | ((with_reducible repeat (first | refine blk_drewN ?_ _ | refine blk_drew ?_ | refine blk_alloc ?_ _)); exact BK324.out)) : p := h
theorem zk39 {p : Prop} (h : p := by (try simp only [hl343002_48]); first | exact BK323.out | ((with_reducible repeat (first | refine blk_drewN ?_ _ | refine blk_drew ?_ | refine blk_alloc ?_ _)); exact BK323.out)) : p := h
theorem zk40 {p : Prop} (h : p := by (with_reducible repeat (first | apply Kd.R_alloc | apply Kd.R_drewN | apply Kd.R_drew)); exact Kd.R_mono HO341.out (fun _ hk => trivial)) : p := h
theorem zk41 {p : Prop} (h : p := by rw [hg]; exact Nat.ne_of_lt (blk_lt (g := gb323) (o := .cells #[.int .i64 a0_0, .int .i64 a0_1, .slice A0_2 l0_2.length c0_2] 24 (0, 0)) zk2)) : p := h
theorem zk42 {p : Prop} (h : p := by rw [hg]; exact Nat.ne_of_gt (blk_lt (g := gb323) (o := .cells #[.int .i64 a0_0, .int .i64 a0_1, .slice A0_2 l0_2.length c0_2] 24 (0, 0)) zk2)) : p := h
/-! ### laws_FnExactPartsOfBoard: function 4 -/
mutual
def laws_FnExactPartsOfBoard.j0 : Nat → List (List Int) → Bool → List (List Int) → Bool → Bool → Int → Int → List Int → Int → Int → Int → Int → List Int → Option (Bool)
 | 0, _, _, _, _, _, _, _, _, _, _, _, _, _ => none
 | k + 1, x6, x7, x9, x10, x46, x324000, x324001, x324002, x325000, x325001, x343000, x343001, x343002 => if x46 = true then (some false) else ((laws_toBoard.f k x324000 x324001 x324002).bind fun bt350 => ((laws_eqBoard.f k x343000 x343001 x343002 bt350.1 bt350.2.1 bt350.2.2).bind fun t355 => (if t355 = true then ((laws_markBoard.f k x343000 x343001 x343002 1).bind fun bt356 => (if bt356.1 < 0 then (laws_FnExactPartsOfBoard.j1 k x6 x7 x9 true x324000 x324001 x324002 x325000 x325001) else ((laws_eqIntSS.f k x9 x6).bind fun t358 => (if t358 = true then (laws_FnExactPartsOfBoard.j1 k x6 x7 x9 (x10 != x7) x324000 x324001 x324002 x325000 x325001) else (laws_FnExactPartsOfBoard.j1 k x6 x7 x9 true x324000 x324001 x324002 x325000 x325001))))) else (some false))))
def laws_FnExactPartsOfBoard.j1 : Nat → List (List Int) → Bool → List (List Int) → Bool → Int → Int → List Int → Int → Int → Option (Bool)
 | 0, _, _, _, _, _, _, _, _, _ => none
 | k + 1, x6, x7, x9, x67, x324000, x324001, x324002, x325000, x325001 => if x67 = true then (some false) else ((laws_markIntSS.f x9 1).bind fun bt359 => ((laws_heldIntSS.f k bt359.2 1).bind fun t361 => (if t361 < 0 then (some false) else (if t361 = bt359.1 then ((laws_toBoard.f k x324000 x324001 x324002).bind fun bt362 => ((laws_toLeaper.f x325000 x325001).bind fun bt367 => ((impl_PartsOfBoard.f k bt362.1 bt362.2.1 bt362.2.2 bt367.1 bt367.2).bind fun bt369 => ((laws_eqIntSS.f k bt369.1 x6).bind fun t373 => (if t373 = true then (laws_FnExactPartsOfBoard.j2 k bt359.2 bt359.1 (bt369.2 != x7)) else (laws_FnExactPartsOfBoard.j2 k bt359.2 bt359.1 true)))))) else (some false)))))
def laws_FnExactPartsOfBoard.j2 : Nat → List (List Int) → Int → Bool → Option (Bool)
 | 0, _, _, _ => none
 | k + 1, x9, x12, x95 => if x95 = true then (some false) else ((laws_heldIntSS.f k x9 1).bind fun t374 => (if t374 < 0 then (some false) else (if t374 = x12 then (some true) else (some false))))
end
def laws_FnExactPartsOfBoard.f (k : Nat) (a0_0 : Int) (a0_1 : Int) (l0_2 : List Int) (a1_0 : Int) (a1_1 : Int) : Option (Bool) := (laws_szBoard.f a0_0 a0_1 l0_2 1048576).bind fun t325 => (if t325 < 0 then (some true) else ((laws_toBoard.f k a0_0 a0_1 l0_2).bind fun bt326 => ((laws_toLeaper.f a1_0 a1_1).bind fun bt331 => ((spec_PartsOfBoard.f k bt326.1 bt326.2.1 bt326.2.2 bt331.1 bt331.2).bind fun bt333 => ((laws_toBoard.f k a0_0 a0_1 l0_2).bind fun bt337 => ((laws_toLeaper.f a1_0 a1_1).bind fun bt343 => ((impl_PartsOfBoard.f k bt337.1 bt337.2.1 bt337.2.2 bt343.1 bt343.2).bind fun bt345 => ((laws_eqIntSS.f k bt345.1 bt333.1).bind fun t349 => (if t349 = true then (laws_FnExactPartsOfBoard.j0 k bt333.1 bt333.2 bt345.1 bt345.2 (bt345.2 != bt333.2) a0_0 a0_1 l0_2 a1_0 a1_1 bt337.1 bt337.2.1 bt337.2.2) else (laws_FnExactPartsOfBoard.j0 k bt333.1 bt333.2 bt345.1 bt345.2 true a0_0 a0_1 l0_2 a1_0 a1_1 bt337.1 bt337.2.1 bt337.2.2))))))))))
def laws_FnExactPartsOfBoard.T5 : Bool × List (List Nat × List Nat) := (true, [([], []), ([0], [0]), ([], []), ([2, 1], [2]), ([1, 3, 3], [1, 3]), ([4], [4]), ([5], [5]), ([5], [5]), ([6, 4, 0, 1, 2, 3, 4, 5, 6], [6]), ([7, 8, 0, 1, 2, 3, 4, 5, 6, 7, 8], [7])])
def laws_FnExactPartsOfBoard.B5 : List Nat := [0, 1, 0, 7, 15, 31, 63, 63, 127, 511]
theorem laws_FnExactPartsOfBoard.tab5 : rtab .any (opsOf Try.f4 5) = laws_FnExactPartsOfBoard.T5 := by kernel_rfl
theorem laws_FnExactPartsOfBoard.bits5 : waitsOk laws_FnExactPartsOfBoard.T5.2 laws_FnExactPartsOfBoard.B5 = true := by kernel_rfl
def laws_FnExactPartsOfBoard.T7 : Bool × List (List Nat × List Nat) := (true, [([], []), ([], []), ([1], [1]), ([0, 2, 2], [0, 2]), ([3], [3]), ([4], [4]), ([4], [4]), ([5, 3, 0, 1, 2, 3, 4, 5], [5]), ([6, 7, 0, 1, 2, 3, 4, 5, 6, 7], [6])])
def laws_FnExactPartsOfBoard.B7 : List Nat := [0, 0, 2, 7, 15, 31, 31, 63, 255]
theorem laws_FnExactPartsOfBoard.tab7 : rtab .any (opsOf Try.f4 7) = laws_FnExactPartsOfBoard.T7 := by kernel_rfl
theorem laws_FnExactPartsOfBoard.bits7 : waitsOk laws_FnExactPartsOfBoard.T7.2 laws_FnExactPartsOfBoard.B7 = true := by kernel_rfl
def laws_FnExactPartsOfBoard.T24 : Bool × List (List Nat × List Nat) := (true, [([], []), ([0], [0]), ([], []), ([2, 1], [2]), ([1, 3, 3], [1, 3]), ([4], [4]), ([5], [5]), ([5], [5]), ([6, 4, 0, 1, 2, 3, 4, 5, 6], [6]), ([7, 8, 0, 1, 2, 3, 4, 5, 6, 7, 8], [7])])
def laws_FnExactPartsOfBoard.B24 : List Nat := [0, 1, 0, 7, 15, 31, 63, 63, 127, 511]
theorem laws_FnExactPartsOfBoard.tab24 : rtab .any (opsOf Try.f4 24) = laws_FnExactPartsOfBoard.T24 := by kernel_rfl
theorem laws_FnExactPartsOfBoard.bits24 : waitsOk laws_FnExactPartsOfBoard.T24.2 laws_FnExactPartsOfBoard.B24 = true := by kernel_rfl
set_option maxHeartbeats 8000000 in
set_option maxRecDepth 100000 in
theorem laws_FnExactPartsOfBoard.calls (k : Nat) (a0_0 : Int) (a0_1 : Int) (A0_2 : Option Addr) (c0_2 : Nat) (l0_2 : List Int) (a1_0 : Int) (a1_1 : Int) (r : Bool) (w : World) (hr0_2 : Kd.C (Kd.int .i64) w A0_2 l0_2.length l0_2) (hc0_2 : l0_2.length ≤ c0_2) (h : laws_FnExactPartsOfBoard.f k a0_0 a0_1 l0_2 a1_0 a1_1 = some r) :
  Calls Try.prog 4 #[.agg #[.int .i64 a0_0, .int .i64 a0_1, .slice A0_2 l0_2.length c0_2], .agg #[.int .i64 a1_0, .int .i64 a1_1]] w fun e w' => e = .returned (.bool r) ∧ Below w.heap.size w w' := by
 have hu24 := Try.underlying24
 have hu26 := Try.underlying26
 have hu30 := Try.underlying30
 have HR0_2 := Aside0.mk hr0_2
 have HC0_2 := Aside0.mk hc0_2
 clear hr0_2 hc0_2
 have HB := Aside0.mk (Below.refl w.heap.size w)
 have H : ((laws_szBoard.f a0_0 a0_1 l0_2 1048576).bind fun t325 => (if t325 < 0 then (some true) else ((laws_toBoard.f k a0_0 a0_1 l0_2).bind fun bt326 => ((laws_toLeaper.f a1_0 a1_1).bind fun bt331 => ((spec_PartsOfBoard.f k bt326.1 bt326.2.1 bt326.2.2 bt331.1 bt331.2).bind fun bt333 => ((laws_toBoard.f k a0_0 a0_1 l0_2).bind fun bt337 => ((laws_toLeaper.f a1_0 a1_1).bind fun bt343 => ((impl_PartsOfBoard.f k bt337.1 bt337.2.1 bt337.2.2 bt343.1 bt343.2).bind fun bt345 => ((laws_eqIntSS.f k bt345.1 bt333.1).bind fun t349 => (if t349 = true then (laws_FnExactPartsOfBoard.j0 k bt333.1 bt333.2 bt345.1 bt345.2 (bt345.2 != bt333.2) a0_0 a0_1 l0_2 a1_0 a1_1 bt337.1 bt337.2.1 bt337.2.2) else (laws_FnExactPartsOfBoard.j0 k bt333.1 bt333.2 bt345.1 bt345.2 true a0_0 a0_1 l0_2 a1_0 a1_1 bt337.1 bt337.2.1 bt337.2.2))))))))))) = some r := h
 clear h
 replace H := Option.bind_eq_some_iff.mp H
 obtain ⟨t325, A30, H⟩ := H
 replace H : (if t325 < 0 then (some true) else ((laws_toBoard.f k a0_0 a0_1 l0_2).bind fun bt326 => ((laws_toLeaper.f a1_0 a1_1).bind fun bt331 => ((spec_PartsOfBoard.f k bt326.1 bt326.2.1 bt326.2.2 bt331.1 bt331.2).bind fun bt333 => ((laws_toBoard.f k a0_0 a0_1 l0_2).bind fun bt337 => ((laws_toLeaper.f a1_0 a1_1).bind fun bt343 => ((impl_PartsOfBoard.f k bt337.1 bt337.2.1 bt337.2.2 bt343.1 bt343.2).bind fun bt345 => ((laws_eqIntSS.f k bt345.1 bt333.1).bind fun t349 => (if t349 = true then (laws_FnExactPartsOfBoard.j0 k bt333.1 bt333.2 bt345.1 bt345.2 (bt345.2 != bt333.2) a0_0 a0_1 l0_2 a1_0 a1_1 bt337.1 bt337.2.1 bt337.2.2) else (laws_FnExactPartsOfBoard.j0 k bt333.1 bt333.2 bt345.1 bt345.2 true a0_0 a0_1 l0_2 a1_0 a1_1 bt337.1 bt337.2.1 bt337.2.2)))))))))) = some r := H
 have A3 := Aside0.mk A30
 clear A30
 by_cases c4 : t325 < 0
 ·rw [if_pos c4] at H
  have c4b0 : decide (t325 < 0) = true := decide_eq_true c4
  clear c4
  obtain rfl := Option.some.inj H
  go_enter Try.func4, Try.ntmps4
  go_wp2_with (first | ((with_reducible refine gate_dst (N := 2) rfl ?_); refine box_event ?hg (N := 2) ?hd (cs := #[.int .i64 a0_0, .int .i64 a0_1, .slice A0_2 l0_2.length c0_2]) (t := 24) ?hr ?_; (case hd => rfl); (case hg => rfl); (case hr => first | (go_simp; done) | (go_simp; rfl)); intro gb323 hg w5 hbox hb; have n0_ := Aside0.mk (below_step zk16 hb); have n1_ := Aside0.mk (hbox); have n2_ := Aside0.mk ((by rw [hg]; exact (below_size zk16) : w.heap.size ≤ gb323)); have n3_ := Aside0.mk ((by rw [hg]; exact (below_size zk16) : w.heap.size ≤ gb323)); clear HB; have HB := n0_; have BK323 := n1_; have GW323 := n2_; have GE323 := n3_; clear n0_ n1_ n2_ n3_; clear hb hbox hg) | ((with_reducible refine gate_dst (N := 3) rfl ?_); refine box_event ?hg (N := 3) ?hd (cs := #[.int .i64 a1_0, .int .i64 a1_1]) (t := 26) ?hr ?_; (case hd => rfl); (case hg => rfl); (case hr => first | (go_simp; done) | (go_simp; rfl)); intro gb324 hg w6 hbox hb; have n0_ := Aside0.mk (blk_below (g := gb323) (o := .cells #[.int .i64 a0_0, .int .i64 a0_1, .slice A0_2 l0_2.length c0_2] 24 (0, 0)) zk2 hb); have n1_ := Aside0.mk (below_step zk14 hb); have n2_ := Aside0.mk (hbox); have n3_ := Aside0.mk ((by rw [hg]; exact (below_size zk14) : w.heap.size ≤ gb324)); have n4_ := Aside0.mk ((by rw [hg]; exact (below_size zk14) : w.heap.size ≤ gb324)); have n5_ := Aside0.mk ((zk41 : gb323 ≠ gb324)); have n6_ := Aside0.mk ((zk42 : gb324 ≠ gb323)); clear BK323; clear HB; have BK323 := n0_; have HB := n1_; have BK324 := n2_; have GW324 := n3_; have GE324 := n4_; have NB323_324 := n5_; have NB324_323 := n6_; clear n0_ n1_ n2_ n3_ n4_ n5_ n6_; clear hb hbox hg; have hnb7 := NB323_324.out; have hnc7 := NB324_323.out; have hcz8_0 : w6.cell? ⟨gb323, 0, none⟩ = some (.int .i64 a0_0) := (blk_cell BK323.out 0).trans rfl; have hcz8_1 : w6.cell? ⟨gb323, 1, none⟩ = some (.int .i64 a0_1) := (blk_cell BK323.out 1).trans rfl; have hcz8_2 : w6.cell? ⟨gb323, 2, none⟩ = some (.slice A0_2 l0_2.length c0_2) := (blk_cell BK323.out 2).trans rfl; have hfz8_0 := blk_frozen BK323.out 0; have hfz8_1 := blk_frozen BK323.out 1; have hfz8_2 := blk_frozen BK323.out 2) | ((with_reducible refine gate_callee (f := 5) rfl ?_); refine goesL_ (some 18) rfl rfl Try.func5 (by kernel_rfl) rfl #[.agg #[.int .i64 a0_0, .int .i64 a0_1, .slice A0_2 l0_2.length c0_2], .int .i64 1048576] rfl zk4 ?_; (with_reducible refine (laws_szBoard.calls a0_0 a0_1 _ _ l0_2 1048576 t325 _ ?side1 ?side2 A3.out).mono ?_); (case side1 => exact zk11); (case side2 => exact HC0_2.out); rintro e w9 ⟨rfl, hb⟩; refine ⟨_, rfl, ?_⟩; have n0_ := Aside0.mk (blk_below (g := gb323) (o := .cells #[.int .i64 a0_0, .int .i64 a0_1, .slice A0_2 l0_2.length c0_2] 24 (0, 0)) zk2 hb); have n1_ := Aside0.mk (blk_below (g := gb324) (o := .cells #[.int .i64 a1_0, .int .i64 a1_1] 26 (0, 0)) zk3 hb); have n2_ := Aside0.mk (below_step zk7 hb); clear BK323; clear BK324; clear HB; have BK323 := n0_; have BK324 := n1_; have HB := n2_; clear n0_ n1_ n2_; (try clear hb); (try clear hb2); (try clear hk); (try clear hi); (try clear hna_); (try clear hnb_)))
  go_ret
  exact ⟨zk12, zk7⟩
 rw [if_neg c4] at H
 have c4b0 : decide (t325 < 0) = false := decide_eq_false c4
 clear c4
 replace H := Option.bind_eq_some_iff.mp H
 obtain ⟨⟨t326, t327, t328⟩, A100, H⟩ := H
 replace H : ((laws_toLeaper.f a1_0 a1_1).bind fun bt331 => ((spec_PartsOfBoard.f k t326 t327 t328 bt331.1 bt331.2).bind fun bt333 => ((laws_toBoard.f k a0_0 a0_1 l0_2).bind fun bt337 => ((laws_toLeaper.f a1_0 a1_1).bind fun bt343 => ((impl_PartsOfBoard.f k bt337.1 bt337.2.1 bt337.2.2 bt343.1 bt343.2).bind fun bt345 => ((laws_eqIntSS.f k bt345.1 bt333.1).bind fun t349 => (if t349 = true then (laws_FnExactPartsOfBoard.j0 k bt333.1 bt333.2 bt345.1 bt345.2 (bt345.2 != bt333.2) a0_0 a0_1 l0_2 a1_0 a1_1 bt337.1 bt337.2.1 bt337.2.2) else (laws_FnExactPartsOfBoard.j0 k bt333.1 bt333.2 bt345.1 bt345.2 true a0_0 a0_1 l0_2 a1_0 a1_1 bt337.1 bt337.2.1 bt337.2.2)))))))) = some r := H
 have A10 := Aside0.mk A100
 clear A100
 replace H := Option.bind_eq_some_iff.mp H
 obtain ⟨⟨t331, t332⟩, A110, H⟩ := H
 replace H : ((spec_PartsOfBoard.f k t326 t327 t328 t331 t332).bind fun bt333 => ((laws_toBoard.f k a0_0 a0_1 l0_2).bind fun bt337 => ((laws_toLeaper.f a1_0 a1_1).bind fun bt343 => ((impl_PartsOfBoard.f k bt337.1 bt337.2.1 bt337.2.2 bt343.1 bt343.2).bind fun bt345 => ((laws_eqIntSS.f k bt345.1 bt333.1).bind fun t349 => (if t349 = true then (laws_FnExactPartsOfBoard.j0 k bt333.1 bt333.2 bt345.1 bt345.2 (bt345.2 != bt333.2) a0_0 a0_1 l0_2 a1_0 a1_1 bt337.1 bt337.2.1 bt337.2.2) else (laws_FnExactPartsOfBoard.j0 k bt333.1 bt333.2 bt345.1 bt345.2 true a0_0 a0_1 l0_2 a1_0 a1_1 bt337.1 bt337.2.1 bt337.2.2))))))) = some r := H
 have A11 := Aside0.mk A110
 clear A110
 replace H := Option.bind_eq_some_iff.mp H
 obtain ⟨⟨t333, t336⟩, A120, H⟩ := H
 replace H : ((laws_toBoard.f k a0_0 a0_1 l0_2).bind fun bt337 => ((laws_toLeaper.f a1_0 a1_1).bind fun bt343 => ((impl_PartsOfBoard.f k bt337.1 bt337.2.1 bt337.2.2 bt343.1 bt343.2).bind fun bt345 => ((laws_eqIntSS.f k bt345.1 t333).bind fun t349 => (if t349 = true then (laws_FnExactPartsOfBoard.j0 k t333 t336 bt345.1 bt345.2 (bt345.2 != t336) a0_0 a0_1 l0_2 a1_0 a1_1 bt337.1 bt337.2.1 bt337.2.2) else (laws_FnExactPartsOfBoard.j0 k t333 t336 bt345.1 bt345.2 true a0_0 a0_1 l0_2 a1_0 a1_1 bt337.1 bt337.2.1 bt337.2.2)))))) = some r := H
 have A12 := Aside0.mk A120
 clear A120
 replace H := Option.bind_eq_some_iff.mp H
 obtain ⟨⟨t337, t338, t339⟩, A130, H⟩ := H
 replace H : ((laws_toLeaper.f a1_0 a1_1).bind fun bt343 => ((impl_PartsOfBoard.f k t337 t338 t339 bt343.1 bt343.2).bind fun bt345 => ((laws_eqIntSS.f k bt345.1 t333).bind fun t349 => (if t349 = true then (laws_FnExactPartsOfBoard.j0 k t333 t336 bt345.1 bt345.2 (bt345.2 != t336) a0_0 a0_1 l0_2 a1_0 a1_1 t337 t338 t339) else (laws_FnExactPartsOfBoard.j0 k t333 t336 bt345.1 bt345.2 true a0_0 a0_1 l0_2 a1_0 a1_1 t337 t338 t339))))) = some r := H
 have A13 := Aside0.mk A130
 clear A130
 replace H := Option.bind_eq_some_iff.mp H
 obtain ⟨⟨t343, t344⟩, A140, H⟩ := H
 replace H : ((impl_PartsOfBoard.f k t337 t338 t339 t343 t344).bind fun bt345 => ((laws_eqIntSS.f k bt345.1 t333).bind fun t349 => (if t349 = true then (laws_FnExactPartsOfBoard.j0 k t333 t336 bt345.1 bt345.2 (bt345.2 != t336) a0_0 a0_1 l0_2 a1_0 a1_1 t337 t338 t339) else (laws_FnExactPartsOfBoard.j0 k t333 t336 bt345.1 bt345.2 true a0_0 a0_1 l0_2 a1_0 a1_1 t337 t338 t339)))) = some r := H
 have A14 := Aside0.mk A140
 clear A140
 replace H := Option.bind_eq_some_iff.mp H
 obtain ⟨⟨t345, t348⟩, A150, H⟩ := H
 replace H : ((laws_eqIntSS.f k t345 t333).bind fun t349 => (if t349 = true then (laws_FnExactPartsOfBoard.j0 k t333 t336 t345 t348 (t348 != t336) a0_0 a0_1 l0_2 a1_0 a1_1 t337 t338 t339) else (laws_FnExactPartsOfBoard.j0 k t333 t336 t345 t348 true a0_0 a0_1 l0_2 a1_0 a1_1 t337 t338 t339))) = some r := H
 have A15 := Aside0.mk A150
 clear A150
 have HC16 := Aside0.mk H
 clear H
 go_enter Try.func4, Try.ntmps4
 try go_wp2_with (first | ((with_reducible refine gate_dst (N := 2) rfl ?_); refine box_event ?hg (N := 2) ?hd (cs := #[.int .i64 a0_0, .int .i64 a0_1, .slice A0_2 l0_2.length c0_2]) (t := 24) ?hr ?_; (case hd => rfl); (case hg => rfl); (case hr => first | (go_simp; done) | (go_simp; rfl)); intro gb323 hg w17 hbox hb; have n0_ := Aside0.mk (below_step zk16 hb); have n1_ := Aside0.mk (hbox); have n2_ := Aside0.mk ((by rw [hg]; exact (below_size zk16) : w.heap.size ≤ gb323)); have n3_ := Aside0.mk ((by rw [hg]; exact (below_size zk16) : w.heap.size ≤ gb323)); clear HB; have HB := n0_; have BK323 := n1_; have GW323 := n2_; have GE323 := n3_; clear n0_ n1_ n2_ n3_; clear hb hbox hg) | ((with_reducible refine gate_dst (N := 3) rfl ?_); refine box_event ?hg (N := 3) ?hd (cs := #[.int .i64 a1_0, .int .i64 a1_1]) (t := 26) ?hr ?_; (case hd => rfl); (case hg => rfl); (case hr => first | (go_simp; done) | (go_simp; rfl)); intro gb324 hg w18 hbox hb; have n0_ := Aside0.mk (blk_below (g := gb323) (o := .cells #[.int .i64 a0_0, .int .i64 a0_1, .slice A0_2 l0_2.length c0_2] 24 (0, 0)) zk2 hb); have n1_ := Aside0.mk (below_step zk14 hb); have n2_ := Aside0.mk (hbox); have n3_ := Aside0.mk ((by rw [hg]; exact (below_size zk14) : w.heap.size ≤ gb324)); have n4_ := Aside0.mk ((by rw [hg]; exact (below_size zk14) : w.heap.size ≤ gb324)); have n5_ := Aside0.mk ((zk41 : gb323 ≠ gb324)); have n6_ := Aside0.mk ((zk42 : gb324 ≠ gb323)); clear BK323; clear HB; have BK323 := n0_; have HB := n1_; have BK324 := n2_; have GW324 := n3_; have GE324 := n4_; have NB323_324 := n5_; have NB324_323 := n6_; clear n0_ n1_ n2_ n3_ n4_ n5_ n6_; clear hb hbox hg; have hnb19 := NB323_324.out; have hnc19 := NB324_323.out; have hcz20_0 : w18.cell? ⟨gb323, 0, none⟩ = some (.int .i64 a0_0) := (blk_cell BK323.out 0).trans rfl; have hcz20_1 : w18.cell? ⟨gb323, 1, none⟩ = some (.int .i64 a0_1) := (blk_cell BK323.out 1).trans rfl; have hcz20_2 : w18.cell? ⟨gb323, 2, none⟩ = some (.slice A0_2 l0_2.length c0_2) := (blk_cell BK323.out 2).trans rfl; have hfz20_0 := blk_frozen BK323.out 0; have hfz20_1 := blk_frozen BK323.out 1; have hfz20_2 := blk_frozen BK323.out 2) | ((with_reducible refine gate_callee (f := 5) rfl ?_); refine goesL_ (some 18) rfl rfl Try.func5 (by kernel_rfl) rfl #[.agg #[.int .i64 a0_0, .int .i64 a0_1, .slice A0_2 l0_2.length c0_2], .int .i64 1048576] rfl zk4 ?_; (with_reducible refine (laws_szBoard.calls a0_0 a0_1 _ _ l0_2 1048576 t325 _ ?side1 ?side2 A3.out).mono ?_); (case side1 => exact zk11); (case side2 => exact HC0_2.out); rintro e w21 ⟨rfl, hb⟩; refine ⟨_, rfl, ?_⟩; have n0_ := Aside0.mk (blk_below (g := gb323) (o := .cells #[.int .i64 a0_0, .int .i64 a0_1, .slice A0_2 l0_2.length c0_2] 24 (0, 0)) zk2 hb); have n1_ := Aside0.mk (blk_below (g := gb324) (o := .cells #[.int .i64 a1_0, .int .i64 a1_1] 26 (0, 0)) zk3 hb); have n2_ := Aside0.mk (below_step zk7 hb); clear BK323; clear BK324; clear HB; have BK323 := n0_; have BK324 := n1_; have HB := n2_; clear n0_ n1_ n2_; (try clear hb); (try clear hb2); (try clear hk); (try clear hi); (try clear hna_); (try clear hnb_)))
 have n0_ := Aside0.mk (blk_drew BK323.out)
 have n1_ := Aside0.mk (blk_drew BK324.out)
 have n2_ := Aside0.mk (below_drew1 HB.out)
 clear BK323
 clear BK324
 clear HB
 have BK323 := n0_
 have BK324 := n1_
 have HB := n2_
 clear n0_ n1_ n2_
 refine start_ (n := 10) (S := fun w' => w'.cell? ⟨gb323, 0, none⟩ = some (.int .i64 a0_0) ∧ w'.cell? ⟨gb323, 1, none⟩ = some (.int .i64 a0_1) ∧ w'.cell? ⟨gb323, 2, none⟩ = some (.slice A0_2 l0_2.length c0_2) ∧ w'.cell? ⟨gb324, 0, none⟩ = some (.int .i64 a1_0) ∧ w'.cell? ⟨gb324, 1, none⟩ = some (.int .i64 a1_1)) (ds := []) #[false, false, false, false, false, false, false, false, false, false] (by kernel_rfl) rfl rfl ⟨(blk_cell BK323.out 0).trans rfl, (blk_cell BK323.out 1).trans rfl, (blk_cell BK323.out 2).trans rfl, (blk_cell BK324.out 0).trans rfl, (blk_cell BK324.out 1).trans rfl⟩ (fun hHeld => ?_); refine with_tabW laws_FnExactPartsOfBoard.tab5 laws_FnExactPartsOfBoard.bits5 (fun HT_ HW_ => ?_)
 generalize w21.drew = w22 at BK323 BK324 HB hHeld ⊢
 refine take_ (i := 0) (N := some 22) (v := ?_) (a' := ?_) #[true, false, false, false, false, false, false, false, false, false] rfl rfl (take_ofW HT_.out HW_.out (by kernel_rfl)) (fun _ _ _ h => h) (Or.inl ⟨by rfl, ?_⟩) hHeld ?_ ?_
 rotate_left
 ·rintro w' ⟨s0, s1, s2, s3, s4⟩
  go_simp
  with_reducible rfl
 rotate_left
 ·simp only [Act.put, List.setIfInBounds_toArray, List.set_cons_zero, List.set_cons_succ, i64_w, i32_w]
  rfl
 refine take_ (i := 2) (N := some 24) (v := ?_) (a' := ?_) #[true, false, true, false, false, false, false, false, false, false] rfl rfl (take_ofW HT_.out HW_.out (by kernel_rfl)) (fun _ _ _ h => h) (Or.inl ⟨by rfl, ?_⟩) hHeld ?_ ?_
 rotate_left
 ·rintro w' ⟨s0, s1, s2, s3, s4⟩
  go_simp
  with_reducible rfl
 rotate_left
 ·simp only [Act.put, List.setIfInBounds_toArray, List.set_cons_zero, List.set_cons_succ, i64_w, i32_w]
  rfl
 refine one_ (i := 1) (N := some 23) #[true, true, true, false, false, false, false, false, false, false] rfl rfl (one_of HT_.out (by kernel_rfl)) (by decide) (fun K hK => ?_)
 refine goes_ Try.func7 (by kernel_rfl) rfl #[.agg #[.int .i64 a0_0, .int .i64 a0_1, .slice A0_2 l0_2.length c0_2]] (by rfl) rfl rfl zk4 ?_
 with_reducible refine (laws_toBoard.calls k a0_0 a0_1 _ _ l0_2 t326 t327 t328 _ ?side1 ?side2 A10.out).mono ?_
 (case side1 => exact zk11)
 (case side2 => exact HC0_2.out)
 rintro e w23 ⟨v329, rfl, ho0, hb⟩
 refine ⟨_, rfl, ?_⟩
 have n0_ := Aside0.mk (Kd.R_lower ho0 (below_size zk7))
 have n1_ := Aside0.mk (blk_below (g := gb323) (o := .cells #[.int .i64 a0_0, .int .i64 a0_1, .slice A0_2 l0_2.length c0_2] 24 (0, 0)) zk2 hb)
 have n2_ := Aside0.mk (blk_below (g := gb324) (o := .cells #[.int .i64 a1_0, .int .i64 a1_1] 26 (0, 0)) zk3 hb)
 have n3_ := Aside0.mk (below_step zk7 hb)
 clear BK323
 clear BK324
 clear HB
 have HO330 := n0_
 have BK323 := n1_
 have BK324 := n2_
 have HB := n3_
 clear n0_ n1_ n2_ n3_
 (try clear hb)
 (try clear hb2)
 (try clear hk)
 (try clear hi)
 (try clear ho0)
 (try clear hna_)
 (try clear hnb_)
 refine hK.out _ _ ⟨(blk_cell BK323.out 0).trans rfl, (blk_cell BK323.out 1).trans rfl, (blk_cell BK323.out 2).trans rfl, (blk_cell BK324.out 0).trans rfl, (blk_cell BK324.out 1).trans rfl⟩ (fun hHeld => ?_)
 clear hK K
 refine norm_ (a' := ?_) ?_ ?_
 rotate_left
 ·show Act.put _ (some 23) _ = _
  simp only [Act.put, List.setIfInBounds_toArray, List.set_cons_zero, List.set_cons_succ, i64_w, i32_w]
  rfl
 refine one_ (i := 3) (N := some 25) #[true, true, true, true, false, false, false, false, false, false] rfl rfl (one_of HT_.out (by kernel_rfl)) (by decide) (fun K hK => ?_)
 refine goes_ Try.func8 (by kernel_rfl) rfl #[.agg #[.int .i64 a1_0, .int .i64 a1_1]] (by rfl) rfl rfl zk4 ?_
 with_reducible refine (laws_toLeaper.calls a1_0 a1_1 t331 t332 _ A11.out).mono ?_
 rintro e w24 ⟨rfl, hb⟩
 refine ⟨_, rfl, ?_⟩
 have n0_ := Aside0.mk (Kd.R_below zk13 hb)
 have n1_ := Aside0.mk (blk_below (g := gb323) (o := .cells #[.int .i64 a0_0, .int .i64 a0_1, .slice A0_2 l0_2.length c0_2] 24 (0, 0)) zk2 hb)
 have n2_ := Aside0.mk (blk_below (g := gb324) (o := .cells #[.int .i64 a1_0, .int .i64 a1_1] 26 (0, 0)) zk3 hb)
 have n3_ := Aside0.mk (below_step zk7 hb)
 clear HO330
 clear BK323
 clear BK324
 clear HB
 have HO330 := n0_
 have BK323 := n1_
 have BK324 := n2_
 have HB := n3_
 clear n0_ n1_ n2_ n3_
 (try clear hb)
 (try clear hb2)
 (try clear hk)
 (try clear hi)
 (try clear hna_)
 (try clear hnb_)
 obtain ⟨Ao25, co25, eo25⟩ := Kd.R_slice HO330.out
 (first | subst eo25 | (injection eo25 with f1_ f2_ f3_; have f4_ := f1_.symm; have f5_ := f3_.symm; clear f1_ f2_ f3_; subst f4_; subst f5_))
 refine hK.out _ _ ⟨(blk_cell BK323.out 0).trans rfl, (blk_cell BK323.out 1).trans rfl, (blk_cell BK323.out 2).trans rfl, (blk_cell BK324.out 0).trans rfl, (blk_cell BK324.out 1).trans rfl⟩ (fun hHeld => ?_)
 clear hK K
 refine norm_ (a' := ?_) ?_ ?_
 rotate_left
 ·show Act.put _ (some 25) _ = _
  simp only [Act.put, List.setIfInBounds_toArray, List.set_cons_zero, List.set_cons_succ, i64_w, i32_w]
  rfl
 refine one_ (i := 4) (N := some 26) #[true, true, true, true, true, false, false, false, false, false] rfl rfl (one_of HT_.out (by kernel_rfl)) (by decide) (fun K hK => ?_)
 refine goes_ Try.func11 (by kernel_rfl) rfl #[.agg #[.int .i64 t326, .int .i64 t327, .slice Ao25 t328.length co25], .agg #[.int .i64 t331, .int .i64 t332]] (by rfl) rfl rfl zk4 ?_
 with_reducible refine (spec_PartsOfBoard.calls k t326 t327 _ _ t328 t331 t332 t333 t336 _ ?side1 ?side2 A12.out).mono ?_
 (case side1 => repeat (first | exact (Kd.R_reads' HO330.out).2.2 | (with_reducible refine Kd.C_alloc ?_ _) | (with_reducible refine Kd.C_drewN ?_ _) | (with_reducible refine Kd.C_drew ?_)))
 (case side2 => exact (Kd.R_reads' HO330.out).2.1)
 rintro e w26 ⟨v334, rfl, ho0, hb⟩
 refine ⟨_, rfl, ?_⟩
 have n0_ := Aside0.mk (Kd.R_below zk13 hb)
 have n1_ := Aside0.mk (Kd.S_lower (Kd.S_new' ho0 (Kd.R_lt zk13)) (below_size zk7))
 have n2_ := Aside0.mk (blk_below (g := gb323) (o := .cells #[.int .i64 a0_0, .int .i64 a0_1, .slice A0_2 l0_2.length c0_2] 24 (0, 0)) zk2 hb)
 have n3_ := Aside0.mk (blk_below (g := gb324) (o := .cells #[.int .i64 a1_0, .int .i64 a1_1] 26 (0, 0)) zk3 hb)
 have n4_ := Aside0.mk (below_step zk7 hb)
 clear HO330
 clear BK323
 clear BK324
 clear HB
 have HO330 := n0_
 have HO335 := n1_
 have BK323 := n2_
 have BK324 := n3_
 have HB := n4_
 clear n0_ n1_ n2_ n3_ n4_
 (try clear hb)
 (try clear hb2)
 (try clear hk)
 (try clear hi)
 (try clear ho0)
 (try clear hna_)
 (try clear hnb_)
 refine hK.out _ _ ⟨(blk_cell BK323.out 0).trans rfl, (blk_cell BK323.out 1).trans rfl, (blk_cell BK323.out 2).trans rfl, (blk_cell BK324.out 0).trans rfl, (blk_cell BK324.out 1).trans rfl⟩ (fun hHeld => ?_)
 clear hK K
 refine norm_ (a' := ?_) ?_ ?_
 rotate_left
 ·show Act.put _ (some 26) _ = _
  simp only [Act.put, List.setIfInBounds_toArray, List.set_cons_zero, List.set_cons_succ, i64_w, i32_w]
  rfl
 refine pure_ (i := 5) (N := some 21) (v := ?_) (a' := ?_) #[true, true, true, true, true, true, false, false, false, false] rfl rfl (any_of HT_.out (by kernel_rfl)) (fun _ _ _ h => h) (Or.inl ⟨by rfl, ?_⟩) ?_ ?_
 rotate_left
 ·intro w'
  go_simp
  with_reducible rfl
 rotate_left
 ·simp only [Act.put, List.setIfInBounds_toArray, List.set_cons_zero, List.set_cons_succ, i64_w, i32_w]
  rfl
 refine pure_ (i := 6) (N := some 27) (v := ?_) (a' := ?_) #[true, true, true, true, true, true, true, false, false, false] rfl rfl (any_of HT_.out (by kernel_rfl)) (fun _ _ _ h => h) (Or.inl ⟨by rfl, ?_⟩) ?_ ?_
 rotate_left
 ·intro w'
  go_simp
  with_reducible rfl
 rotate_left
 ·simp only [Act.put, List.setIfInBounds_toArray, List.set_cons_zero, List.set_cons_succ, i64_w, i32_w]
  rfl
 refine pure_ (i := 7) (N := some 28) (v := ?_) (a' := ?_) #[true, true, true, true, true, true, true, true, false, false] rfl rfl (any_of HT_.out (by kernel_rfl)) (fun _ _ _ h => h) (Or.inl ⟨by rfl, ?_⟩) ?_ ?_
 rotate_left
 ·intro w'
  go_simp
  with_reducible rfl
 rotate_left
 ·simp only [Act.put, List.setIfInBounds_toArray, List.set_cons_zero, List.set_cons_succ, i64_w, i32_w]
  rfl
 refine pure_ (i := 8) (N := some 6) (v := ?_) (a' := ?_) #[true, true, true, true, true, true, true, true, true, false] rfl rfl (any_of HT_.out (by kernel_rfl)) (fun _ _ _ h => h) (Or.inl ⟨by rfl, ?_⟩) ?_ ?_
 rotate_left
 ·intro w'
  go_simp
  with_reducible rfl
 rotate_left
 ·simp only [Act.put, List.setIfInBounds_toArray, List.set_cons_zero, List.set_cons_succ, i64_w, i32_w]
  rfl
 refine pure_ (i := 9) (N := some 7) (v := ?_) (a' := ?_) #[true, true, true, true, true, true, true, true, true, true] rfl rfl (any_of HT_.out (by kernel_rfl)) (fun _ _ _ h => h) (Or.inl ⟨by rfl, ?_⟩) ?_ ?_
 rotate_left
 ·intro w'
  go_simp
  with_reducible rfl
 rotate_left
 ·simp only [Act.put, List.setIfInBounds_toArray, List.set_cons_zero, List.set_cons_succ, i64_w, i32_w]
  rfl
 refine done_ (done_of HT_.out (by kernel_rfl)) ?_
 have hcz27_0 : w26.cell? ⟨gb323, 0, none⟩ = some (.int .i64 a0_0) := (blk_cell BK323.out 0).trans rfl
 have hcz27_1 : w26.cell? ⟨gb323, 1, none⟩ = some (.int .i64 a0_1) := (blk_cell BK323.out 1).trans rfl
 have hcz27_2 : w26.cell? ⟨gb323, 2, none⟩ = some (.slice A0_2 l0_2.length c0_2) := (blk_cell BK323.out 2).trans rfl
 have hfz27_0 := blk_frozen BK323.out 0
 have hfz27_1 := blk_frozen BK323.out 1
 have hfz27_2 := blk_frozen BK323.out 2
 try go_wp2_with (first | ((with_reducible refine gate_callee (f := 7) rfl ?_); refine goesL_ (some 30) rfl rfl Try.func7 (by kernel_rfl) rfl #[.agg #[.int .i64 a0_0, .int .i64 a0_1, .slice A0_2 l0_2.length c0_2]] rfl zk4 ?_; (with_reducible refine (laws_toBoard.calls k a0_0 a0_1 _ _ l0_2 t337 t338 t339 _ ?side1 ?side2 A13.out).mono ?_); (case side1 => exact zk11); (case side2 => exact HC0_2.out); rintro e w28 ⟨v340, rfl, ho0, hb⟩; refine ⟨_, rfl, ?_⟩; have n0_ := Aside0.mk (Kd.R_elder' zk13 (Kd.R_base ho0) hb); have n1_ := Aside0.mk (Kd.S_elder' zk20 (Kd.R_base ho0) hb); have n2_ := Aside0.mk (Kd.R_lower (Kd.R_new' ho0 (Kd.R_lt zk13)) (below_size zk7)); have n3_ := Aside0.mk (blk_below (g := gb323) (o := .cells #[.int .i64 a0_0, .int .i64 a0_1, .slice A0_2 l0_2.length c0_2] 24 (0, 0)) zk2 hb); have n4_ := Aside0.mk (blk_below (g := gb324) (o := .cells #[.int .i64 a1_0, .int .i64 a1_1] 26 (0, 0)) zk3 hb); have n5_ := Aside0.mk (below_step zk7 hb); clear HO330; clear HO335; clear BK323; clear BK324; clear HB; have HO330 := n0_; have HO335 := n1_; have HO341 := n2_; have BK323 := n3_; have BK324 := n4_; have HB := n5_; clear n0_ n1_ n2_ n3_ n4_ n5_; (try clear hb); (try clear hb2); (try clear hk); (try clear hi); (try clear ho0); (try clear hna_); (try clear hnb_)) | ((with_reducible refine gate_dst (N := 8) rfl ?_); refine box_event ?hg (N := 8) ?hd (cs := #[.int .i64 0, .int .i64 0, .slice none 0 0]) (t := 30) ?hr ?_; (case hd => rfl); (case hg => rfl); (case hr => first | (go_simp; done) | (go_simp; rfl)); intro gb342 hg w29 hbox hb; have n0_ := Aside0.mk (Kd.R_below zk13 hb); have n1_ := Aside0.mk (Kd.S_below zk20 hb); have n2_ := Aside0.mk (Kd.R_below zk23 hb); have n3_ := Aside0.mk (blk_below (g := gb323) (o := .cells #[.int .i64 a0_0, .int .i64 a0_1, .slice A0_2 l0_2.length c0_2] 24 (0, 0)) zk2 hb); have n4_ := Aside0.mk (blk_below (g := gb324) (o := .cells #[.int .i64 a1_0, .int .i64 a1_1] 26 (0, 0)) zk3 hb); have n5_ := Aside0.mk (below_step zk7 hb); have n6_ := Aside0.mk (hbox); have n7_ := Aside0.mk ((by rw [hg]; exact (below_size zk7) : w.heap.size ≤ gb342)); have n8_ := Aside0.mk ((by rw [hg]; exact (below_size zk7) : w.heap.size ≤ gb342)); have n9_ := Aside0.mk ((zk41 : gb323 ≠ gb342)); have n10_ := Aside0.mk ((zk42 : gb342 ≠ gb323)); have n11_ := Aside0.mk ((by rw [hg]; exact Nat.ne_of_lt (blk_lt (g := gb324) (o := .cells #[.int .i64 a1_0, .int .i64 a1_1] 26 (0, 0)) zk3) : gb324 ≠ gb342)); have n12_ := Aside0.mk ((by rw [hg]; exact Nat.ne_of_gt (blk_lt (g := gb324) (o := .cells #[.int .i64 a1_0, .int .i64 a1_1] 26 (0, 0)) zk3) : gb342 ≠ gb324)); clear HO330; clear HO335; clear HO341; clear BK323; clear BK324; clear HB; have HO330 := n0_; have HO335 := n1_; have HO341 := n2_; have BK323 := n3_; have BK324 := n4_; have HB := n5_; have BK342 := n6_; have GW342 := n7_; have GE342 := n8_; have NB323_342 := n9_; have NB342_323 := n10_; have NB324_342 := n11_; have NB342_324 := n12_; clear n0_ n1_ n2_ n3_ n4_ n5_ n6_ n7_ n8_ n9_ n10_ n11_ n12_; clear hb hbox hg; have hnb30 := NB342_323.out; have hnc30 := NB323_342.out; have hnb31 := NB342_324.out; have hnc31 := NB324_342.out; have hcz32_0 : w29.cell? ⟨gb342, 0, none⟩ = some (.int .i64 0) := (blk_cell BK342.out 0).trans rfl; have hcz32_1 : w29.cell? ⟨gb342, 1, none⟩ = some (.int .i64 0) := (blk_cell BK342.out 1).trans rfl; have hcz32_2 : w29.cell? ⟨gb342, 2, none⟩ = some (.slice none 0 0) := (blk_cell BK342.out 2).trans rfl; have hfz32_0 := blk_frozen BK342.out 0; have hfz32_1 := blk_frozen BK342.out 1; have hfz32_2 := blk_frozen BK342.out 2; obtain ⟨Ao33, co33, eo33⟩ := Kd.R_slice HO341.out; subst eo33))
 have n0_ : Aside0 (Kd.R (Kd.int .i64) 3 (((w29.setCell ⟨gb342, 0, none⟩ (.int .i64 t337)).setCell ⟨gb342, 1, none⟩ (.int .i64 t338)).setCell ⟨gb342, 2, none⟩ (.slice Ao33 t339.length co33)) w.heap.size (fun k_ => some k_ ≠ (.slice Ao33 t339.length co33 : Value).ownBlock) (.slice Ao25 t328.length co25) t328) := ⟨by (with_reducible repeat (first | apply Kd.R_alloc | apply Kd.R_drewN | apply Kd.R_drew)); exact Kd.R_mono (Kd.R_far (p := ⟨gb342, 2, none⟩) (Kd.R_far (p := ⟨gb342, 1, none⟩) (Kd.R_far (p := ⟨gb342, 0, none⟩) (Kd.R_types HO330.out BK342.out (by decide)) (fun _ hk => hk.2) (.int .i64 t337)) (fun _ hk => hk.2) (.int .i64 t338)) (fun _ hk => hk.2) (.slice Ao33 t339.length co33)) (fun _ hk => hk.1.2)⟩
 have n1_ : Aside0 (Kd.S (Kd.slice 3 (Kd.int .i64)) 22 (((w29.setCell ⟨gb342, 0, none⟩ (.int .i64 t337)).setCell ⟨gb342, 1, none⟩ (.int .i64 t338)).setCell ⟨gb342, 2, none⟩ (.slice Ao33 t339.length co33)) w.heap.size (fun k_ => some k_ ≠ (.slice Ao25 t328.length co25 : Value).ownBlock ∧ some k_ ≠ (.slice Ao33 t339.length co33 : Value).ownBlock) v334 t333) := ⟨by (with_reducible repeat (first | apply Kd.S_alloc | apply Kd.S_drewN | apply Kd.S_drew)); exact Kd.S_mono (Kd.S_far (p := ⟨gb342, 2, none⟩) (Kd.S_far (p := ⟨gb342, 1, none⟩) (Kd.S_far (p := ⟨gb342, 0, none⟩) (Kd.S_types HO335.out BK342.out (by decide)) (fun _ hk => hk.2) (.int .i64 t337)) (fun _ hk => hk.2) (.int .i64 t338)) (fun _ hk => hk.2) (.slice Ao33 t339.length co33)) (fun _ hk => ⟨hk.1.1.2, hk.1.2⟩)⟩
 have n2_ : Aside0 (Kd.R (Kd.int .i64) 3 (((w29.setCell ⟨gb342, 0, none⟩ (.int .i64 t337)).setCell ⟨gb342, 1, none⟩ (.int .i64 t338)).setCell ⟨gb342, 2, none⟩ (.slice Ao33 t339.length co33)) w.heap.size (fun k_ => some k_ ≠ (.slice Ao25 t328.length co25 : Value).ownBlock) (.slice Ao33 t339.length co33) t339) := ⟨by (with_reducible repeat (first | apply Kd.R_alloc | apply Kd.R_drewN | apply Kd.R_drew)); exact Kd.R_mono (Kd.R_far (p := ⟨gb342, 2, none⟩) (Kd.R_far (p := ⟨gb342, 1, none⟩) (Kd.R_far (p := ⟨gb342, 0, none⟩) (Kd.R_types HO341.out BK342.out (by decide)) (fun _ hk => hk.2) (.int .i64 t337)) (fun _ hk => hk.2) (.int .i64 t338)) (fun _ hk => hk.2) (.slice Ao33 t339.length co33)) (fun _ hk => hk.1.2)⟩
 have n3_ : Aside0 ((((w29.setCell ⟨gb342, 0, none⟩ (.int .i64 t337)).setCell ⟨gb342, 1, none⟩ (.int .i64 t338)).setCell ⟨gb342, 2, none⟩ (.slice Ao33 t339.length co33)).heap[gb323]? = some (.cells #[.int .i64 a0_0, .int .i64 a0_1, .slice A0_2 l0_2.length c0_2] 24 (0, 0))) := ⟨by (with_reducible repeat (first | refine blk_drewN ?_ _ | refine blk_drew ?_ | refine blk_alloc ?_ _)); refine blk_far ?_ NB323_342.out _; (with_reducible repeat (first | refine blk_drewN ?_ _ | refine blk_drew ?_ | refine blk_alloc ?_ _)); refine blk_far ?_ NB323_342.out _; (with_reducible repeat (first | refine blk_drewN ?_ _ | refine blk_drew ?_ | refine blk_alloc ?_ _)); refine blk_far ?_ NB323_342.out _; first | exact BK323.out | ((with_reducible repeat (first | refine blk_drewN ?_ _ | refine blk_drew ?_ | refine blk_alloc ?_ _)); exact BK323.out)⟩
 have n4_ : Aside0 ((((w29.setCell ⟨gb342, 0, none⟩ (.int .i64 t337)).setCell ⟨gb342, 1, none⟩ (.int .i64 t338)).setCell ⟨gb342, 2, none⟩ (.slice Ao33 t339.length co33)).heap[gb324]? = some (.cells #[.int .i64 a1_0, .int .i64 a1_1] 26 (0, 0))) := ⟨by (with_reducible repeat (first | refine blk_drewN ?_ _ | refine blk_drew ?_ | refine blk_alloc ?_ _)); refine blk_far ?_ NB324_342.out _; (with_reducible repeat (first | refine blk_drewN ?_ _ | refine blk_drew ?_ | refine blk_alloc ?_ _)); refine blk_far ?_ NB324_342.out _; (with_reducible repeat (first | refine blk_drewN ?_ _ | refine blk_drew ?_ | refine blk_alloc ?_ _)); refine blk_far ?_ NB324_342.out _; first | exact BK324.out | ((with_reducible repeat (first | refine blk_drewN ?_ _ | refine blk_drew ?_ | refine blk_alloc ?_ _)); exact BK324.out)⟩
 have n5_ : Aside0 ((((w29.setCell ⟨gb342, 0, none⟩ (.int .i64 t337)).setCell ⟨gb342, 1, none⟩ (.int .i64 t338)).setCell ⟨gb342, 2, none⟩ (.slice Ao33 t339.length co33)).heap[gb342]? = some (.cells #[.int .i64 t337, .int .i64 t338, .slice Ao33 t339.length co33] 30 (0, 0))) := ⟨by (with_reducible repeat (first | refine blk_drewN ?_ _ | refine blk_drew ?_ | refine blk_alloc ?_ _)); refine blk_put (cs := #[.int .i64 t337, .int .i64 t338, .slice none 0 0]) ?_ 2 _ rfl; (with_reducible repeat (first | refine blk_drewN ?_ _ | refine blk_drew ?_ | refine blk_alloc ?_ _)); refine blk_put (cs := #[.int .i64 t337, .int .i64 0, .slice none 0 0]) ?_ 1 _ rfl; (with_reducible repeat (first | refine blk_drewN ?_ _ | refine blk_drew ?_ | refine blk_alloc ?_ _)); refine blk_put (cs := #[.int .i64 0, .int .i64 0, .slice none 0 0]) ?_ 0 _ rfl; first | exact BK342.out | ((with_reducible repeat (first | refine blk_drewN ?_ _ | refine blk_drew ?_ | refine blk_alloc ?_ _)); exact BK342.out)⟩
 have n6_ : Aside0 (Below w.heap.size w (((w29.setCell ⟨gb342, 0, none⟩ (.int .i64 t337)).setCell ⟨gb342, 1, none⟩ (.int .i64 t338)).setCell ⟨gb342, 2, none⟩ (.slice Ao33 t339.length co33))) := ⟨zk1⟩
 (try clear HO330)
 (try clear HO335)
 (try clear HO341)
 (try clear BK323)
 (try clear BK324)
 (try clear BK342)
 (try clear HB)
 generalize (((w29.setCell ⟨gb342, 0, none⟩ (.int .i64 t337)).setCell ⟨gb342, 1, none⟩ (.int .i64 t338)).setCell ⟨gb342, 2, none⟩ (.slice Ao33 t339.length co33)) = w34 at n0_ n1_ n2_ n3_ n4_ n5_ n6_ ⊢
 have HO330 := n0_
 have HO335 := n1_
 have HO341 := n2_
 have BK323 := n3_
 have BK324 := n4_
 have BK342 := n5_
 have HB := n6_
 clear n0_ n1_ n2_ n3_ n4_ n5_ n6_
 have n0_ := Aside0.mk (Kd.R_drew HO330.out)
 have n1_ := Aside0.mk (Kd.S_drew HO335.out)
 have n2_ := Aside0.mk (Kd.R_drew HO341.out)
 have n3_ := Aside0.mk (blk_drew BK323.out)
 have n4_ := Aside0.mk (blk_drew BK324.out)
 have n5_ := Aside0.mk (blk_drew BK342.out)
 have n6_ := Aside0.mk (below_drew1 HB.out)
 clear HO330
 clear HO335
 clear HO341
 clear BK323
 clear BK324
 clear BK342
 clear HB
 have HO330 := n0_
 have HO335 := n1_
 have HO341 := n2_
 have BK323 := n3_
 have BK324 := n4_
 have BK342 := n5_
 have HB := n6_
 clear n0_ n1_ n2_ n3_ n4_ n5_ n6_
 refine start_ (n := 9) (S := fun w' => w'.cell? ⟨gb342, 0, none⟩ = some (.int .i64 t337) ∧ w'.cell? ⟨gb342, 1, none⟩ = some (.int .i64 t338) ∧ w'.cell? ⟨gb342, 2, none⟩ = some (.slice Ao33 t339.length co33) ∧ w'.cell? ⟨gb324, 0, none⟩ = some (.int .i64 a1_0) ∧ w'.cell? ⟨gb324, 1, none⟩ = some (.int .i64 a1_1)) (ds := []) #[false, false, false, false, false, false, false, false, false] (by kernel_rfl) rfl rfl ⟨(blk_cell BK342.out 0).trans rfl, (blk_cell BK342.out 1).trans rfl, (blk_cell BK342.out 2).trans rfl, (blk_cell BK324.out 0).trans rfl, (blk_cell BK324.out 1).trans rfl⟩ (fun hHeld => ?_); refine with_tabW laws_FnExactPartsOfBoard.tab7 laws_FnExactPartsOfBoard.bits7 (fun HT_ HW_ => ?_)
 generalize w34.drew = w35 at HO330 HO335 HO341 BK323 BK324 BK342 HB hHeld ⊢
 refine take_ (i := 0) (N := some 32) (v := ?_) (a' := ?_) #[true, false, false, false, false, false, false, false, false] rfl rfl (take_ofW HT_.out HW_.out (by kernel_rfl)) (fun _ _ _ h => h) (Or.inl ⟨by rfl, ?_⟩) hHeld ?_ ?_
 rotate_left
 ·rintro w' ⟨s0, s1, s2, s3, s4⟩
  go_simp
  with_reducible rfl
 rotate_left
 ·simp only [Act.put, List.setIfInBounds_toArray, List.set_cons_zero, List.set_cons_succ, i64_w, i32_w]
  rfl
 refine take_ (i := 1) (N := some 33) (v := ?_) (a' := ?_) #[true, true, false, false, false, false, false, false, false] rfl rfl (take_ofW HT_.out HW_.out (by kernel_rfl)) (fun _ _ _ h => h) (Or.inl ⟨by rfl, ?_⟩) hHeld ?_ ?_
 rotate_left
 ·rintro w' ⟨s0, s1, s2, s3, s4⟩
  go_simp
  with_reducible rfl
 rotate_left
 ·simp only [Act.put, List.setIfInBounds_toArray, List.set_cons_zero, List.set_cons_succ, i64_w, i32_w]
  rfl
 refine one_ (i := 2) (N := some 34) #[true, true, true, false, false, false, false, false, false] rfl rfl (one_of HT_.out (by kernel_rfl)) (by decide) (fun K hK => ?_)
 refine goes_ Try.func8 (by kernel_rfl) rfl #[.agg #[.int .i64 a1_0, .int .i64 a1_1]] (by rfl) rfl rfl zk4 ?_
 with_reducible refine (laws_toLeaper.calls a1_0 a1_1 t343 t344 _ A14.out).mono ?_
 rintro e w36 ⟨rfl, hb⟩
 refine ⟨_, rfl, ?_⟩
 have n0_ := Aside0.mk (Kd.R_below zk13 hb)
 have n1_ := Aside0.mk (Kd.S_below zk20 hb)
 have n2_ := Aside0.mk (Kd.R_below zk23 hb)
 have n3_ := Aside0.mk (blk_below (g := gb323) (o := .cells #[.int .i64 a0_0, .int .i64 a0_1, .slice A0_2 l0_2.length c0_2] 24 (0, 0)) zk2 hb)
 have n4_ := Aside0.mk (blk_below (g := gb324) (o := .cells #[.int .i64 a1_0, .int .i64 a1_1] 26 (0, 0)) zk3 hb)
 have n5_ := Aside0.mk (blk_below (g := gb342) (o := .cells #[.int .i64 t337, .int .i64 t338, .slice Ao33 t339.length co33] 30 (0, 0)) zk6 hb)
 have n6_ := Aside0.mk (below_step zk1 hb)
 clear HO330
 clear HO335
 clear HO341
 clear BK323
 clear BK324
 clear BK342
 clear HB
 have HO330 := n0_
 have HO335 := n1_
 have HO341 := n2_
 have BK323 := n3_
 have BK324 := n4_
 have BK342 := n5_
 have HB := n6_
 clear n0_ n1_ n2_ n3_ n4_ n5_ n6_
 (try clear hb)
 (try clear hb2)
 (try clear hk)
 (try clear hi)
 (try clear hna_)
 (try clear hnb_)
 refine hK.out _ _ ⟨(blk_cell BK342.out 0).trans rfl, (blk_cell BK342.out 1).trans rfl, (blk_cell BK342.out 2).trans rfl, (blk_cell BK324.out 0).trans rfl, (blk_cell BK324.out 1).trans rfl⟩ (fun hHeld => ?_)
 clear hK K
 refine norm_ (a' := ?_) ?_ ?_
 rotate_left
 ·show Act.put _ (some 34) _ = _
  simp only [Act.put, List.setIfInBounds_toArray, List.set_cons_zero, List.set_cons_succ, i64_w, i32_w]
  rfl
 refine one_ (i := 3) (N := some 35) #[true, true, true, true, false, false, false, false, false] rfl rfl (one_of HT_.out (by kernel_rfl)) (by decide) (fun K hK => ?_)
 refine goes_ Try.func12 (by kernel_rfl) rfl #[.agg #[.int .i64 t337, .int .i64 t338, .slice Ao33 t339.length co33], .agg #[.int .i64 t343, .int .i64 t344]] (by rfl) rfl rfl zk4 ?_
 with_reducible refine (impl_PartsOfBoard.calls k t337 t338 _ _ t339 t343 t344 t345 t348 _ ?side1 ?side2 A15.out).mono ?_
 (case side1 => repeat (first | exact (Kd.R_reads' HO341.out).2.2 | (with_reducible refine Kd.C_alloc ?_ _) | (with_reducible refine Kd.C_drewN ?_ _) | (with_reducible refine Kd.C_drew ?_)))
 (case side2 => exact (Kd.R_reads' HO341.out).2.1)
 rintro e w37 ⟨v346, rfl, ho0, hb⟩
 refine ⟨_, rfl, ?_⟩
 obtain ⟨na377_, nb377_, hna_, hnb_⟩ := rng_of hb
 replace ho0 := rng_new ho0 hna_ hnb_
 have n0_ := Aside0.mk (Kd.R_below zk13 hb)
 have n1_ := Aside0.mk (Kd.S_elder' (Kd.S_mono (Kd.S_bound zk20) (fun k_ hk_ => (⟨hk_.1, rng_lt hna_ hk_.2.2.1⟩ : _ ∧ k_ ≠ (rngIn na377_ nb377_ k_)))) (Kd.S_base ho0) hb)
 have n2_ := Aside0.mk (Kd.R_below zk23 hb)
 have n3_ := Aside0.mk (Kd.S_lower (Kd.S_new' (Kd.S_new' (Kd.S_new' ho0 (Kd.R_lt zk13)) (Kd.S_lt zk20)) (Kd.R_lt zk23)) (below_size zk1))
 have n4_ := Aside0.mk (blk_below (g := gb323) (o := .cells #[.int .i64 a0_0, .int .i64 a0_1, .slice A0_2 l0_2.length c0_2] 24 (0, 0)) zk2 hb)
 have n5_ := Aside0.mk (blk_below (g := gb324) (o := .cells #[.int .i64 a1_0, .int .i64 a1_1] 26 (0, 0)) zk3 hb)
 have n6_ := Aside0.mk (blk_below (g := gb342) (o := .cells #[.int .i64 t337, .int .i64 t338, .slice Ao33 t339.length co33] 30 (0, 0)) zk6 hb)
 have n7_ := Aside0.mk ((Nat.le_of_eq hnb_.symm : nb377_ ≤ w37.heap.size))
 have n8_ := Aside0.mk (below_step zk1 hb)
 clear HO330
 clear HO335
 clear HO341
 clear BK323
 clear BK324
 clear BK342
 clear HB
 have HO330 := n0_
 have HO335 := n1_
 have HO341 := n2_
 have HO347 := n3_
 have BK323 := n4_
 have BK324 := n5_
 have BK342 := n6_
 have HNB377 := n7_
 have HB := n8_
 clear n0_ n1_ n2_ n3_ n4_ n5_ n6_ n7_ n8_
 (try clear hb)
 (try clear hb2)
 (try clear hk)
 (try clear hi)
 (try clear ho0)
 (try clear hna_)
 (try clear hnb_)
 refine hK.out _ _ ⟨(blk_cell BK342.out 0).trans rfl, (blk_cell BK342.out 1).trans rfl, (blk_cell BK342.out 2).trans rfl, (blk_cell BK324.out 0).trans rfl, (blk_cell BK324.out 1).trans rfl⟩ (fun hHeld => ?_)
 clear hK K
 refine norm_ (a' := ?_) ?_ ?_
 rotate_left
 ·show Act.put _ (some 35) _ = _
  simp only [Act.put, List.setIfInBounds_toArray, List.set_cons_zero, List.set_cons_succ, i64_w, i32_w]
  rfl
 refine pure_ (i := 4) (N := some 31) (v := ?_) (a' := ?_) #[true, true, true, true, true, false, false, false, false] rfl rfl (any_of HT_.out (by kernel_rfl)) (fun _ _ _ h => h) (Or.inl ⟨by rfl, ?_⟩) ?_ ?_
 rotate_left
 ·intro w'
  go_simp
  with_reducible rfl
 rotate_left
 ·simp only [Act.put, List.setIfInBounds_toArray, List.set_cons_zero, List.set_cons_succ, i64_w, i32_w]
  rfl
 refine pure_ (i := 5) (N := some 36) (v := ?_) (a' := ?_) #[true, true, true, true, true, true, false, false, false] rfl rfl (any_of HT_.out (by kernel_rfl)) (fun _ _ _ h => h) (Or.inl ⟨by rfl, ?_⟩) ?_ ?_
 rotate_left
 ·intro w'
  go_simp
  with_reducible rfl
 rotate_left
 ·simp only [Act.put, List.setIfInBounds_toArray, List.set_cons_zero, List.set_cons_succ, i64_w, i32_w]
  rfl
 refine pure_ (i := 6) (N := some 37) (v := ?_) (a' := ?_) #[true, true, true, true, true, true, true, false, false] rfl rfl (any_of HT_.out (by kernel_rfl)) (fun _ _ _ h => h) (Or.inl ⟨by rfl, ?_⟩) ?_ ?_
 rotate_left
 ·intro w'
  go_simp
  with_reducible rfl
 rotate_left
 ·simp only [Act.put, List.setIfInBounds_toArray, List.set_cons_zero, List.set_cons_succ, i64_w, i32_w]
  rfl
 refine pure_ (i := 7) (N := some 9) (v := ?_) (a' := ?_) #[true, true, true, true, true, true, true, true, false] rfl rfl (any_of HT_.out (by kernel_rfl)) (fun _ _ _ h => h) (Or.inl ⟨by rfl, ?_⟩) ?_ ?_
 rotate_left
 ·intro w'
  go_simp
  with_reducible rfl
 rotate_left
 ·simp only [Act.put, List.setIfInBounds_toArray, List.set_cons_zero, List.set_cons_succ, i64_w, i32_w]
  rfl
 refine pure_ (i := 8) (N := some 10) (v := ?_) (a' := ?_) #[true, true, true, true, true, true, true, true, true] rfl rfl (any_of HT_.out (by kernel_rfl)) (fun _ _ _ h => h) (Or.inl ⟨by rfl, ?_⟩) ?_ ?_
 rotate_left
 ·intro w'
  go_simp
  with_reducible rfl
 rotate_left
 ·simp only [Act.put, List.setIfInBounds_toArray, List.set_cons_zero, List.set_cons_succ, i64_w, i32_w]
  rfl
 refine done_ (done_of HT_.out (by kernel_rfl)) ?_
 go_upto_region 8 with (fail)
 go_cut [46] (fun v46 wc => ∃ (kq : Nat) (x46_15 : Bool), v46 = .bool x46_15 ∧ Aside0 (laws_FnExactPartsOfBoard.j0 kq t333 t336 t345 t348 x46_15 a0_0 a0_1 l0_2 a1_0 a1_1 t337 t338 t339 = some r) ∧ Aside0 (kq ≤ k) ∧ Aside0 (Kd.S (Kd.slice 3 (Kd.int .i64)) 22 wc w.heap.size (fun k_ => some k_ ≠ (v346 : Value).ownBlock ∧ some k_ ≠ ((.slice Ao33 t339.length co33) : Value).ownBlock ∧ k_ ≠ (rngIn na377_ nb377_ k_)) v334 t333) ∧ Aside0 (Kd.S (Kd.slice 3 (Kd.int .i64)) 22 wc w.heap.size (fun k_ => some k_ ≠ (v334 : Value).ownBlock ∧ some k_ ≠ ((.slice Ao33 t339.length co33) : Value).ownBlock ∧ k_ ≠ (rngOut na377_ nb377_ k_)) v346 t345) ∧ Aside0 (Kd.R (Kd.int .i64) 3 wc w.heap.size (fun _ => True) (.slice Ao33 t339.length co33) t339) ∧ Aside0 (wc.heap[gb323]? = some (.cells #[.int .i64 a0_0, .int .i64 a0_1, (.slice A0_2 l0_2.length c0_2)] 24 (0, 0))) ∧ Aside0 (wc.heap[gb324]? = some (.cells #[.int .i64 a1_0, .int .i64 a1_1] 26 (0, 0))) ∧ Aside0 (wc.heap[gb342]? = some (.cells #[.int .i64 t337, .int .i64 t338, (.slice Ao33 t339.length co33)] 30 (0, 0))) ∧ Aside0 (nb377_ ≤ wc.heap.size) ∧ Aside0 (Below w.heap.size w wc))
 case first =>
  have H := HC16.out
  clear HC16
  replace H := Option.bind_eq_some_iff.mp H
  obtain ⟨t349, A380, H⟩ := H
  replace H : (if t349 = true then (laws_FnExactPartsOfBoard.j0 k t333 t336 t345 t348 (t348 != t336) a0_0 a0_1 l0_2 a1_0 a1_1 t337 t338 t339) else (laws_FnExactPartsOfBoard.j0 k t333 t336 t345 t348 true a0_0 a0_1 l0_2 a1_0 a1_1 t337 t338 t339)) = some r := H
  have A38 := Aside0.mk A380
  clear A380
  by_cases c39 : t349 = true
  ·subst c39
   have H1 : (laws_FnExactPartsOfBoard.j0 k t333 t336 t345 t348 (t348 != t336) a0_0 a0_1 l0_2 a1_0 a1_1 t337 t338 t339) = some r := by rw [if_pos rfl] at H; exact H
   clear H
   have H := H1
   clear H1
   have H' := Aside0.mk H
   clear H
   obtain ⟨Ao40, co40, eo40⟩ := Kd.S_slice HO347.out
   subst eo40
   obtain ⟨Ao41, co41, eo41⟩ := Kd.S_slice HO335.out
   subst eo41
   go_wp2_with (first | ((with_reducible refine gate_callee (f := 13) rfl ?_); refine goesL_ (some 40) rfl rfl Try.func13 (by kernel_rfl) rfl #[.slice Ao40 t345.length co40, .slice Ao41 t333.length co41] rfl zk4 ?_; (with_reducible refine (laws_eqIntSS.calls k _ _ t345 _ _ t333 true _ ?side1 ?side2 ?side3 ?side4 A38.out).mono ?_); (case side1 => exact zk34); (case side2 => exact (Kd.S_reads' HO347.out).2.1); (case side3 => exact zk35); (case side4 => exact (Kd.S_reads' HO335.out).2.1); rintro e w' ⟨rfl, ⟨nd, rfl⟩⟩; refine ⟨_, rfl, ?_⟩))
   go_meet
   case rel => exact ⟨_, ((t348 != t336)), zk25, H', ⟨by first | omega | exact Nat.le_refl _⟩, ⟨zk32⟩, ⟨zk31⟩, ⟨zk40⟩, ⟨zk2⟩, ⟨zk3⟩, ⟨zk6⟩, ⟨zk17⟩, ⟨zk1⟩⟩
  replace c39 := Bool.eq_false_iff.mpr c39
  subst c39
  have H1 : (laws_FnExactPartsOfBoard.j0 k t333 t336 t345 t348 true a0_0 a0_1 l0_2 a1_0 a1_1 t337 t338 t339) = some r := by rw [if_neg (show ¬ (false = true) by decide)] at H; exact H
  clear H
  have H := H1
  clear H1
  have H' := Aside0.mk H
  clear H
  obtain ⟨Ao42, co42, eo42⟩ := Kd.S_slice HO347.out
  subst eo42
  obtain ⟨Ao43, co43, eo43⟩ := Kd.S_slice HO335.out
  subst eo43
  go_wp2_with (first | ((with_reducible refine gate_callee (f := 13) rfl ?_); refine goesL_ (some 40) rfl rfl Try.func13 (by kernel_rfl) rfl #[.slice Ao42 t345.length co42, .slice Ao43 t333.length co43] rfl zk4 ?_; (with_reducible refine (laws_eqIntSS.calls k _ _ t345 _ _ t333 false _ ?side1 ?side2 ?side3 ?side4 A38.out).mono ?_); (case side1 => exact zk34); (case side2 => exact (Kd.S_reads' HO347.out).2.1); (case side3 => exact zk35); (case side4 => exact (Kd.S_reads' HO335.out).2.1); rintro e w' ⟨rfl, ⟨nd, rfl⟩⟩; refine ⟨_, rfl, ?_⟩))
  go_meet
  case rel => exact ⟨_, (true), zk25, H', ⟨by first | omega | exact Nat.le_refl _⟩, ⟨zk32⟩, ⟨zk31⟩, ⟨zk40⟩, ⟨zk2⟩, ⟨zk3⟩, ⟨zk6⟩, ⟨zk17⟩, ⟨zk1⟩⟩
 case rest =>
  clear HC16
  try clear c1; try clear p2; try clear c3; try clear c4; try clear c4b0; try clear c5; try clear c7; try clear c8; try clear c11; try clear c12; try clear c13; try clear c19; try clear c30; try clear c31; try clear c39; try clear hcz20_0; try clear hcz20_1; try clear hcz20_2; try clear hcz27_0; try clear hcz27_1; try clear hcz27_2; try clear hcz32_0; try clear hcz32_1; try clear hcz32_2; try clear hcz8_0; try clear hcz8_1; try clear hcz8_2; try clear hfz20_0; try clear hfz20_1; try clear hfz20_2; try clear hfz27_0; try clear hfz27_1; try clear hfz27_2; try clear hfz32_0; try clear hfz32_1; try clear hfz32_2
  try clear hfz8_0; try clear hfz8_1; try clear hfz8_2
  obtain ⟨kq, x46_15, rfl, HA, HJ15, HO_6, HO_9, HO_343002, BK323, BK324, BK342, HNB377, HB⟩ := hcut
  cases kq with
  | zero => exact absurd HA.out (by simp [laws_FnExactPartsOfBoard.j0])
  | succ kj15 =>
   have H := HA.out
   clear HA
   simp only [laws_FnExactPartsOfBoard.j0] at H
   by_cases c44 : x46_15 = true
   ·subst c44
    have H1 : (some false) = some r := by rw [if_pos rfl] at H; exact H
    clear H
    have H := H1
    clear H1
    obtain rfl := Option.some.inj H
    go_wp2
    go_ret
    exact ⟨zk12, zk1⟩
   replace c44 := Bool.eq_false_iff.mpr c44
   subst c44
   have H1 : ((laws_toBoard.f kj15 a0_0 a0_1 l0_2).bind fun bt350 => ((laws_eqBoard.f kj15 t337 t338 t339 bt350.1 bt350.2.1 bt350.2.2).bind fun t355 => (if t355 = true then ((laws_markBoard.f kj15 t337 t338 t339 1).bind fun bt356 => (if bt356.1 < 0 then (laws_FnExactPartsOfBoard.j1 kj15 t333 t336 t345 true a0_0 a0_1 l0_2 a1_0 a1_1) else ((laws_eqIntSS.f kj15 t345 t333).bind fun t358 => (if t358 = true then (laws_FnExactPartsOfBoard.j1 kj15 t333 t336 t345 (t348 != t336) a0_0 a0_1 l0_2 a1_0 a1_1) else (laws_FnExactPartsOfBoard.j1 kj15 t333 t336 t345 true a0_0 a0_1 l0_2 a1_0 a1_1))))) else (some false)))) = some r := by rw [if_neg (show ¬ (false = true) by decide)] at H; exact H
   clear H
   have H := H1
   clear H1
   replace H := Option.bind_eq_some_iff.mp H
   obtain ⟨⟨t350, t351, t352⟩, A450, H⟩ := H
   replace H : ((laws_eqBoard.f kj15 t337 t338 t339 t350 t351 t352).bind fun t355 => (if t355 = true then ((laws_markBoard.f kj15 t337 t338 t339 1).bind fun bt356 => (if bt356.1 < 0 then (laws_FnExactPartsOfBoard.j1 kj15 t333 t336 t345 true a0_0 a0_1 l0_2 a1_0 a1_1) else ((laws_eqIntSS.f kj15 t345 t333).bind fun t358 => (if t358 = true then (laws_FnExactPartsOfBoard.j1 kj15 t333 t336 t345 (t348 != t336) a0_0 a0_1 l0_2 a1_0 a1_1) else (laws_FnExactPartsOfBoard.j1 kj15 t333 t336 t345 true a0_0 a0_1 l0_2 a1_0 a1_1))))) else (some false))) = some r := H
   have A45 := Aside0.mk A450
   clear A450
   replace H := Option.bind_eq_some_iff.mp H
   obtain ⟨t355, A460, H⟩ := H
   replace H : (if t355 = true then ((laws_markBoard.f kj15 t337 t338 t339 1).bind fun bt356 => (if bt356.1 < 0 then (laws_FnExactPartsOfBoard.j1 kj15 t333 t336 t345 true a0_0 a0_1 l0_2 a1_0 a1_1) else ((laws_eqIntSS.f kj15 t345 t333).bind fun t358 => (if t358 = true then (laws_FnExactPartsOfBoard.j1 kj15 t333 t336 t345 (t348 != t336) a0_0 a0_1 l0_2 a1_0 a1_1) else (laws_FnExactPartsOfBoard.j1 kj15 t333 t336 t345 true a0_0 a0_1 l0_2 a1_0 a1_1))))) else (some false)) = some r := H
   have A46 := Aside0.mk A460
   clear A460
   by_cases c47 : t355 = true
   rotate_left
   ·replace c47 := Bool.eq_false_iff.mpr c47
    subst c47
    have H1 : (some false) = some r := by rw [if_neg (show ¬ (false = true) by decide)] at H; exact H
    clear H
    have H := H1
    clear H1
    obtain rfl := Option.some.inj H
    try go_wp2
    have n0_ := Aside0.mk (Kd.S_drew HO_6.out)
    have n1_ := Aside0.mk (Kd.S_drew HO_9.out)
    have n2_ := Aside0.mk (Kd.R_drew HO_343002.out)
    have n3_ := Aside0.mk (blk_drew BK323.out)
    have n4_ := Aside0.mk (blk_drew BK324.out)
    have n5_ := Aside0.mk (blk_drew BK342.out)
    have n6_ := Aside0.mk (below_drew1 HB.out)
    have n7_ := Aside0.mk (show nb377_ ≤ (wc.drew).heap.size from zk17)
    clear HO_6
    clear HO_9
    clear HO_343002
    clear BK323
    clear BK324
    clear BK342
    clear HB
    clear HNB377
    have HO_6 := n0_
    have HO_9 := n1_
    have HO_343002 := n2_
    have BK323 := n3_
    have BK324 := n4_
    have BK342 := n5_
    have HB := n6_
    have HNB377 := n7_
    clear n0_ n1_ n2_ n3_ n4_ n5_ n6_ n7_
    refine start_ (n := 5) (S := fun w' => w'.cell? ⟨gb342, 0, none⟩ = some (.int .i64 t337) ∧ w'.cell? ⟨gb342, 1, none⟩ = some (.int .i64 t338) ∧ w'.cell? ⟨gb342, 2, none⟩ = some (.slice Ao33 t339.length co33) ∧ w'.cell? ⟨gb323, 0, none⟩ = some (.int .i64 a0_0) ∧ w'.cell? ⟨gb323, 1, none⟩ = some (.int .i64 a0_1) ∧ w'.cell? ⟨gb323, 2, none⟩ = some (.slice A0_2 l0_2.length c0_2)) (ds := []) #[false, false, false, false, false] (by kernel_rfl) rfl rfl ⟨(blk_cell BK342.out 0).trans rfl, (blk_cell BK342.out 1).trans rfl, (blk_cell BK342.out 2).trans rfl, (blk_cell BK323.out 0).trans rfl, (blk_cell BK323.out 1).trans rfl, (blk_cell BK323.out 2).trans rfl⟩ (fun hHeld => ?_)
    generalize wc.drew = w95 at HO_6 HO_9 HO_343002 BK323 BK324 BK342 HNB377 HB hHeld ⊢
    refine take_ (i := 0) (N := some 47) (v := ?_) (a' := ?_) #[true, false, false, false, false] rfl rfl (by kernel_rfl) (fun _ _ _ h => h) (Or.inl ⟨by rfl, ?_⟩) hHeld ?_ ?_
    rotate_left
    ·rintro w' ⟨s0, s1, s2, s3, s4, s5⟩
     go_simp
     with_reducible rfl
    rotate_left
    ·simp only [Act.put, List.setIfInBounds_toArray, List.set_cons_zero, List.set_cons_succ, i64_w, i32_w]
     rfl
    refine take_ (i := 1) (N := some 48) (v := ?_) (a' := ?_) #[true, true, false, false, false] rfl rfl (by kernel_rfl) (fun _ _ _ h => h) (Or.inl ⟨by rfl, ?_⟩) hHeld ?_ ?_
    rotate_left
    ·rintro w' ⟨s0, s1, s2, s3, s4, s5⟩
     go_simp
     with_reducible rfl
    rotate_left
    ·simp only [Act.put, List.setIfInBounds_toArray, List.set_cons_zero, List.set_cons_succ, i64_w, i32_w]
     rfl
    refine one_ (i := 2) (N := some 49) #[true, true, true, false, false] rfl rfl (by kernel_rfl) (by decide) (fun K hK => ?_)
    refine goes_ Try.func7 (by kernel_rfl) rfl #[.agg #[.int .i64 a0_0, .int .i64 a0_1, .slice A0_2 l0_2.length c0_2]] (by rfl) rfl rfl zk4 ?_
    with_reducible refine (laws_toBoard.calls kj15 a0_0 a0_1 _ _ l0_2 t350 t351 t352 _ ?side1 ?side2 A45.out).mono ?_
    (case side1 => exact zk11)
    (case side2 => exact HC0_2.out)
    rintro e w96 ⟨v353, rfl, ho0, hb⟩
    refine ⟨_, rfl, ?_⟩
    have n0_ := Aside0.mk (Kd.S_elder' zk15 (Kd.R_base ho0) hb)
    have n1_ := Aside0.mk (Kd.S_elder' zk10 (Kd.R_base ho0) hb)
    have n2_ := Aside0.mk (Kd.R_elder' zk8 (Kd.R_base ho0) hb)
    have n3_ := Aside0.mk (Kd.R_lower (Kd.R_new' ho0 (Kd.R_lt zk8)) (below_size zk1))
    have n4_ := Aside0.mk (blk_below (g := gb323) (o := .cells #[.int .i64 a0_0, .int .i64 a0_1, .slice A0_2 l0_2.length c0_2] 24 (0, 0)) zk2 hb)
    have n5_ := Aside0.mk (blk_below (g := gb324) (o := .cells #[.int .i64 a1_0, .int .i64 a1_1] 26 (0, 0)) zk3 hb)
    have n6_ := Aside0.mk (blk_below (g := gb342) (o := .cells #[.int .i64 t337, .int .i64 t338, .slice Ao33 t339.length co33] 30 (0, 0)) zk6 hb)
    have n7_ := Aside0.mk (below_step zk1 hb)
    have n8_ := Aside0.mk (show nb377_ ≤ w96.heap.size from zk5)
    clear HO_6
    clear HO_9
    clear HO_343002
    clear BK323
    clear BK324
    clear BK342
    clear HB
    clear HNB377
    have HO_6 := n0_
    have HO_9 := n1_
    have HO_343002 := n2_
    have HO354 := n3_
    have BK323 := n4_
    have BK324 := n5_
    have BK342 := n6_
    have HB := n7_
    have HNB377 := n8_
    clear n0_ n1_ n2_ n3_ n4_ n5_ n6_ n7_ n8_
    (try clear hb)
    (try clear hb2)
    (try clear hk)
    (try clear hi)
    (try clear ho0)
    (try clear hna_)
    (try clear hnb_)
    obtain ⟨Ao97, co97, eo97⟩ := Kd.R_slice HO354.out
    (first | subst eo97 | (injection eo97 with f1_ f2_ f3_; have f4_ := f1_.symm; have f5_ := f3_.symm; clear f1_ f2_ f3_; subst f4_; subst f5_))
    refine hK.out _ _ ⟨(blk_cell BK342.out 0).trans rfl, (blk_cell BK342.out 1).trans rfl, (blk_cell BK342.out 2).trans rfl, (blk_cell BK323.out 0).trans rfl, (blk_cell BK323.out 1).trans rfl, (blk_cell BK323.out 2).trans rfl⟩ (fun hHeld => ?_)
    clear hK K
    refine norm_ (a' := ?_) ?_ ?_
    rotate_left
    ·show Act.put _ (some 49) _ = _
     simp only [Act.put, List.setIfInBounds_toArray, List.set_cons_zero, List.set_cons_succ, i64_w, i32_w]
     rfl
    refine one_ (i := 3) (N := some 50) #[true, true, true, true, false] rfl rfl (by kernel_rfl) (by decide) (fun K hK => ?_)
    refine goes_ Try.func10 (by kernel_rfl) rfl #[.agg #[.int .i64 t337, .int .i64 t338, .slice Ao33 t339.length co33], .agg #[.int .i64 t350, .int .i64 t351, .slice Ao97 t352.length co97]] (by rfl) rfl rfl zk4 ?_
    with_reducible refine (laws_eqBoard.calls kj15 t337 t338 _ _ t339 t350 t351 _ _ t352 false _ ?side1 ?side2 ?side3 ?side4 A46.out).mono ?_
    (case side1 => exact zk30)
    (case side2 => exact (Kd.R_reads' HO_343002.out).2.1)
    (case side3 => exact zk36)
    (case side4 => exact (Kd.R_reads' HO354.out).2.1)
    rintro e w98 ⟨rfl, hb⟩
    refine ⟨_, rfl, ?_⟩
    have n0_ := Aside0.mk (Kd.S_below zk15 hb)
    have n1_ := Aside0.mk (Kd.S_below zk10 hb)
    have n2_ := Aside0.mk (Kd.R_below zk8 hb)
    have n3_ := Aside0.mk (Kd.R_below (by first | exact HO354.out | ((with_reducible repeat (first | apply Kd.R_alloc | apply Kd.R_drewN | apply Kd.R_drew)); exact HO354.out)) hb)
    have n4_ := Aside0.mk (blk_below (g := gb323) (o := .cells #[.int .i64 a0_0, .int .i64 a0_1, .slice A0_2 l0_2.length c0_2] 24 (0, 0)) zk2 hb)
    have n5_ := Aside0.mk (blk_below (g := gb324) (o := .cells #[.int .i64 a1_0, .int .i64 a1_1] 26 (0, 0)) zk3 hb)
    have n6_ := Aside0.mk (blk_below (g := gb342) (o := .cells #[.int .i64 t337, .int .i64 t338, .slice Ao33 t339.length co33] 30 (0, 0)) zk6 hb)
    have n7_ := Aside0.mk (below_step zk1 hb)
    have n8_ := Aside0.mk (show nb377_ ≤ w98.heap.size from zk5)
    clear HO_6
    clear HO_9
    clear HO_343002
    clear HO354
    clear BK323
    clear BK324
    clear BK342
    clear HB
    clear HNB377
    have HO_6 := n0_
    have HO_9 := n1_
    have HO_343002 := n2_
    have HO354 := n3_
    have BK323 := n4_
    have BK324 := n5_
    have BK342 := n6_
    have HB := n7_
    have HNB377 := n8_
    clear n0_ n1_ n2_ n3_ n4_ n5_ n6_ n7_ n8_
    (try clear hb)
    (try clear hb2)
    (try clear hk)
    (try clear hi)
    (try clear hna_)
    (try clear hnb_)
    refine hK.out _ _ ⟨(blk_cell BK342.out 0).trans rfl, (blk_cell BK342.out 1).trans rfl, (blk_cell BK342.out 2).trans rfl, (blk_cell BK323.out 0).trans rfl, (blk_cell BK323.out 1).trans rfl, (blk_cell BK323.out 2).trans rfl⟩ (fun hHeld => ?_)
    clear hK K
    refine norm_ (a' := ?_) ?_ ?_
    rotate_left
    ·show Act.put _ (some 50) _ = _
     simp only [Act.put, List.setIfInBounds_toArray, List.set_cons_zero, List.set_cons_succ, i64_w, i32_w]
     rfl
    refine pure_ (i := 4) (N := some 51) (v := ?_) (a' := ?_) #[true, true, true, true, true] rfl rfl (by kernel_rfl) (fun _ _ _ h => h) (Or.inl ⟨by rfl, ?_⟩) ?_ ?_
    rotate_left
    ·intro w'
     go_simp
     with_reducible rfl
    rotate_left
    ·simp only [Act.put, List.setIfInBounds_toArray, List.set_cons_zero, List.set_cons_succ, i64_w, i32_w]
     rfl
    refine done_ (by kernel_rfl) ?_
    try go_wp2
    go_ret
    exact ⟨zk12, zk1⟩
   subst c47
   have H1 : ((laws_markBoard.f kj15 t337 t338 t339 1).bind fun bt356 => (if bt356.1 < 0 then (laws_FnExactPartsOfBoard.j1 kj15 t333 t336 t345 true a0_0 a0_1 l0_2 a1_0 a1_1) else ((laws_eqIntSS.f kj15 t345 t333).bind fun t358 => (if t358 = true then (laws_FnExactPartsOfBoard.j1 kj15 t333 t336 t345 (t348 != t336) a0_0 a0_1 l0_2 a1_0 a1_1) else (laws_FnExactPartsOfBoard.j1 kj15 t333 t336 t345 true a0_0 a0_1 l0_2 a1_0 a1_1))))) = some r := by rw [if_pos rfl] at H; exact H
   clear H
   have H := H1
   clear H1
   replace H := Option.bind_eq_some_iff.mp H
   obtain ⟨⟨t356, t357⟩, A480, H⟩ := H
   replace H : (if t356 < 0 then (laws_FnExactPartsOfBoard.j1 kj15 t333 t336 t345 true a0_0 a0_1 l0_2 a1_0 a1_1) else ((laws_eqIntSS.f kj15 t345 t333).bind fun t358 => (if t358 = true then (laws_FnExactPartsOfBoard.j1 kj15 t333 t336 t345 (t348 != t336) a0_0 a0_1 l0_2 a1_0 a1_1) else (laws_FnExactPartsOfBoard.j1 kj15 t333 t336 t345 true a0_0 a0_1 l0_2 a1_0 a1_1)))) = some r := H
   have A48 := Aside0.mk A480
   clear A480
   have HC49 := Aside0.mk H
   clear H
   try go_wp2
   have n0_ := Aside0.mk (Kd.S_drew HO_6.out)
   have n1_ := Aside0.mk (Kd.S_drew HO_9.out)
   have n2_ := Aside0.mk (Kd.R_drew HO_343002.out)
   have n3_ := Aside0.mk (blk_drew BK323.out)
   have n4_ := Aside0.mk (blk_drew BK324.out)
   have n5_ := Aside0.mk (blk_drew BK342.out)
   have n6_ := Aside0.mk (below_drew1 HB.out)
   have n7_ := Aside0.mk (show nb377_ ≤ (wc.drew).heap.size from zk17)
   clear HO_6
   clear HO_9
   clear HO_343002
   clear BK323
   clear BK324
   clear BK342
   clear HB
   clear HNB377
   have HO_6 := n0_
   have HO_9 := n1_
   have HO_343002 := n2_
   have BK323 := n3_
   have BK324 := n4_
   have BK342 := n5_
   have HB := n6_
   have HNB377 := n7_
   clear n0_ n1_ n2_ n3_ n4_ n5_ n6_ n7_
   refine start_ (n := 5) (S := fun w' => w'.cell? ⟨gb342, 0, none⟩ = some (.int .i64 t337) ∧ w'.cell? ⟨gb342, 1, none⟩ = some (.int .i64 t338) ∧ w'.cell? ⟨gb342, 2, none⟩ = some (.slice Ao33 t339.length co33) ∧ w'.cell? ⟨gb323, 0, none⟩ = some (.int .i64 a0_0) ∧ w'.cell? ⟨gb323, 1, none⟩ = some (.int .i64 a0_1) ∧ w'.cell? ⟨gb323, 2, none⟩ = some (.slice A0_2 l0_2.length c0_2)) (ds := []) #[false, false, false, false, false] (by kernel_rfl) rfl rfl ⟨(blk_cell BK342.out 0).trans rfl, (blk_cell BK342.out 1).trans rfl, (blk_cell BK342.out 2).trans rfl, (blk_cell BK323.out 0).trans rfl, (blk_cell BK323.out 1).trans rfl, (blk_cell BK323.out 2).trans rfl⟩ (fun hHeld => ?_)
   generalize wc.drew = w50 at HO_6 HO_9 HO_343002 BK323 BK324 BK342 HNB377 HB hHeld ⊢
   refine take_ (i := 0) (N := some 47) (v := ?_) (a' := ?_) #[true, false, false, false, false] rfl rfl (by kernel_rfl) (fun _ _ _ h => h) (Or.inl ⟨by rfl, ?_⟩) hHeld ?_ ?_
   rotate_left
   ·rintro w' ⟨s0, s1, s2, s3, s4, s5⟩
    go_simp
    with_reducible rfl
   rotate_left
   ·simp only [Act.put, List.setIfInBounds_toArray, List.set_cons_zero, List.set_cons_succ, i64_w, i32_w]
    rfl
   refine take_ (i := 1) (N := some 48) (v := ?_) (a' := ?_) #[true, true, false, false, false] rfl rfl (by kernel_rfl) (fun _ _ _ h => h) (Or.inl ⟨by rfl, ?_⟩) hHeld ?_ ?_
   rotate_left
   ·rintro w' ⟨s0, s1, s2, s3, s4, s5⟩
    go_simp
    with_reducible rfl
   rotate_left
   ·simp only [Act.put, List.setIfInBounds_toArray, List.set_cons_zero, List.set_cons_succ, i64_w, i32_w]
    rfl
   refine one_ (i := 2) (N := some 49) #[true, true, true, false, false] rfl rfl (by kernel_rfl) (by decide) (fun K hK => ?_)
   refine goes_ Try.func7 (by kernel_rfl) rfl #[.agg #[.int .i64 a0_0, .int .i64 a0_1, .slice A0_2 l0_2.length c0_2]] (by rfl) rfl rfl zk4 ?_
   with_reducible refine (laws_toBoard.calls kj15 a0_0 a0_1 _ _ l0_2 t350 t351 t352 _ ?side1 ?side2 A45.out).mono ?_
   (case side1 => exact zk11)
   (case side2 => exact HC0_2.out)
   rintro e w51 ⟨v353, rfl, ho0, hb⟩
   refine ⟨_, rfl, ?_⟩
   have n0_ := Aside0.mk (Kd.S_elder' zk15 (Kd.R_base ho0) hb)
   have n1_ := Aside0.mk (Kd.S_elder' zk10 (Kd.R_base ho0) hb)
   have n2_ := Aside0.mk (Kd.R_elder' zk8 (Kd.R_base ho0) hb)
   have n3_ := Aside0.mk (Kd.R_lower (Kd.R_new' ho0 (Kd.R_lt zk8)) (below_size zk1))
   have n4_ := Aside0.mk (blk_below (g := gb323) (o := .cells #[.int .i64 a0_0, .int .i64 a0_1, .slice A0_2 l0_2.length c0_2] 24 (0, 0)) zk2 hb)
   have n5_ := Aside0.mk (blk_below (g := gb324) (o := .cells #[.int .i64 a1_0, .int .i64 a1_1] 26 (0, 0)) zk3 hb)
   have n6_ := Aside0.mk (blk_below (g := gb342) (o := .cells #[.int .i64 t337, .int .i64 t338, .slice Ao33 t339.length co33] 30 (0, 0)) zk6 hb)
   have n7_ := Aside0.mk (below_step zk1 hb)
   have n8_ := Aside0.mk (show nb377_ ≤ w51.heap.size from zk5)
   clear HO_6
   clear HO_9
   clear HO_343002
   clear BK323
   clear BK324
   clear BK342
   clear HB
   clear HNB377
   have HO_6 := n0_
   have HO_9 := n1_
   have HO_343002 := n2_
   have HO354 := n3_
   have BK323 := n4_
   have BK324 := n5_
   have BK342 := n6_
   have HB := n7_
   have HNB377 := n8_
   clear n0_ n1_ n2_ n3_ n4_ n5_ n6_ n7_ n8_
   (try clear hb)
   (try clear hb2)
   (try clear hk)
   (try clear hi)
   (try clear ho0)
   (try clear hna_)
   (try clear hnb_)
   obtain ⟨Ao52, co52, eo52⟩ := Kd.R_slice HO354.out
   (first | subst eo52 | (injection eo52 with f1_ f2_ f3_; have f4_ := f1_.symm; have f5_ := f3_.symm; clear f1_ f2_ f3_; subst f4_; subst f5_))
   refine hK.out _ _ ⟨(blk_cell BK342.out 0).trans rfl, (blk_cell BK342.out 1).trans rfl, (blk_cell BK342.out 2).trans rfl, (blk_cell BK323.out 0).trans rfl, (blk_cell BK323.out 1).trans rfl, (blk_cell BK323.out 2).trans rfl⟩ (fun hHeld => ?_)
   clear hK K
   refine norm_ (a' := ?_) ?_ ?_
   rotate_left
   ·show Act.put _ (some 49) _ = _
    simp only [Act.put, List.setIfInBounds_toArray, List.set_cons_zero, List.set_cons_succ, i64_w, i32_w]
    rfl
   refine one_ (i := 3) (N := some 50) #[true, true, true, true, false] rfl rfl (by kernel_rfl) (by decide) (fun K hK => ?_)
   refine goes_ Try.func10 (by kernel_rfl) rfl #[.agg #[.int .i64 t337, .int .i64 t338, .slice Ao33 t339.length co33], .agg #[.int .i64 t350, .int .i64 t351, .slice Ao52 t352.length co52]] (by rfl) rfl rfl zk4 ?_
   with_reducible refine (laws_eqBoard.calls kj15 t337 t338 _ _ t339 t350 t351 _ _ t352 true _ ?side1 ?side2 ?side3 ?side4 A46.out).mono ?_
   (case side1 => exact zk30)
   (case side2 => exact (Kd.R_reads' HO_343002.out).2.1)
   (case side3 => exact zk36)
   (case side4 => exact (Kd.R_reads' HO354.out).2.1)
   rintro e w53 ⟨rfl, hb⟩
   refine ⟨_, rfl, ?_⟩
   have n0_ := Aside0.mk (Kd.S_below zk15 hb)
   have n1_ := Aside0.mk (Kd.S_below zk10 hb)
   have n2_ := Aside0.mk (Kd.R_below zk8 hb)
   have n3_ := Aside0.mk (Kd.R_below (by first | exact HO354.out | ((with_reducible repeat (first | apply Kd.R_alloc | apply Kd.R_drewN | apply Kd.R_drew)); exact HO354.out)) hb)
   have n4_ := Aside0.mk (blk_below (g := gb323) (o := .cells #[.int .i64 a0_0, .int .i64 a0_1, .slice A0_2 l0_2.length c0_2] 24 (0, 0)) zk2 hb)
   have n5_ := Aside0.mk (blk_below (g := gb324) (o := .cells #[.int .i64 a1_0, .int .i64 a1_1] 26 (0, 0)) zk3 hb)
   have n6_ := Aside0.mk (blk_below (g := gb342) (o := .cells #[.int .i64 t337, .int .i64 t338, .slice Ao33 t339.length co33] 30 (0, 0)) zk6 hb)
   have n7_ := Aside0.mk (below_step zk1 hb)
   have n8_ := Aside0.mk (show nb377_ ≤ w53.heap.size from zk5)
   clear HO_6
   clear HO_9
   clear HO_343002
   clear HO354
   clear BK323
   clear BK324
   clear BK342
   clear HB
   clear HNB377
   have HO_6 := n0_
   have HO_9 := n1_
   have HO_343002 := n2_
   have HO354 := n3_
   have BK323 := n4_
   have BK324 := n5_
   have BK342 := n6_
   have HB := n7_
   have HNB377 := n8_
   clear n0_ n1_ n2_ n3_ n4_ n5_ n6_ n7_ n8_
   (try clear hb)
   (try clear hb2)
   (try clear hk)
   (try clear hi)
   (try clear hna_)
   (try clear hnb_)
   refine hK.out _ _ ⟨(blk_cell BK342.out 0).trans rfl, (blk_cell BK342.out 1).trans rfl, (blk_cell BK342.out 2).trans rfl, (blk_cell BK323.out 0).trans rfl, (blk_cell BK323.out 1).trans rfl, (blk_cell BK323.out 2).trans rfl⟩ (fun hHeld => ?_)
   clear hK K
   refine norm_ (a' := ?_) ?_ ?_
   rotate_left
   ·show Act.put _ (some 50) _ = _
    simp only [Act.put, List.setIfInBounds_toArray, List.set_cons_zero, List.set_cons_succ, i64_w, i32_w]
    rfl
   refine pure_ (i := 4) (N := some 51) (v := ?_) (a' := ?_) #[true, true, true, true, true] rfl rfl (by kernel_rfl) (fun _ _ _ h => h) (Or.inl ⟨by rfl, ?_⟩) ?_ ?_
   rotate_left
   ·intro w'
    go_simp
    with_reducible rfl
   rotate_left
   ·simp only [Act.put, List.setIfInBounds_toArray, List.set_cons_zero, List.set_cons_succ, i64_w, i32_w]
    rfl
   refine done_ (by kernel_rfl) ?_
   have hnb54 := NB342_323.out
   have hnc54 := NB323_342.out
   have hnb55 := NB342_324.out
   have hnc55 := NB324_342.out
   have hcz56_0 : w53.cell? ⟨gb342, 0, none⟩ = some (.int .i64 t337) := (blk_cell BK342.out 0).trans rfl
   have hcz56_1 : w53.cell? ⟨gb342, 1, none⟩ = some (.int .i64 t338) := (blk_cell BK342.out 1).trans rfl
   have hcz56_2 : w53.cell? ⟨gb342, 2, none⟩ = some (.slice Ao33 t339.length co33) := (blk_cell BK342.out 2).trans rfl
   have hfz56_0 := blk_frozen BK342.out 0
   have hfz56_1 := blk_frozen BK342.out 1
   have hfz56_2 := blk_frozen BK342.out 2
   go_upto_region 14 with (first | ((with_reducible refine gate_callee (f := 14) rfl ?_); refine goesL_ (some 54) rfl rfl Try.func14 (by kernel_rfl) rfl #[.agg #[.int .i64 t337, .int .i64 t338, .slice Ao33 t339.length co33], .int .i64 1] rfl zk4 ?_; (with_reducible refine (laws_markBoard.calls kj15 t337 t338 (fun k_ => some k_ = (.slice Ao33 t339.length co33 : Value).ownBlock) (.slice Ao33 t339.length co33) t339 1 t356 t357 w _ ?side1 ?side2 A48.out).mono ?_); (case side1 => exact zk1); (case side2 => exact Kd.R_tight rfl HO_343002.out); rintro e w57 ⟨rfl, hy0, hb, hkp⟩; refine ⟨_, rfl, ?_⟩; have n0_ := Aside0.mk (Kd.S_mono (ok' := fun k_ => some k_ ≠ (v346 : Value).ownBlock ∧ some k_ ≠ (.slice Ao33 t339.length co33 : Value).ownBlock ∧ some k_ ≠ (.slice Ao52 t352.length co52 : Value).ownBlock ∧ k_ ≠ (rngIn na377_ nb377_ k_)) (Kd.S_keptB (HO_6.out) hkp (fun k_ hk_ hs_ => (hk_.1.2.1) hs_)) (fun k_ hk_ => ⟨hk_.1.1.1, hk_.1.1.2.1, hk_.1.2, hk_.1.1.2.2⟩)); have n1_ := Aside0.mk (Kd.S_mono (ok' := fun k_ => some k_ ≠ (v334 : Value).ownBlock ∧ some k_ ≠ (.slice Ao33 t339.length co33 : Value).ownBlock ∧ some k_ ≠ (.slice Ao52 t352.length co52 : Value).ownBlock ∧ k_ ≠ (rngOut na377_ nb377_ k_)) (Kd.S_keptB (HO_9.out) hkp (fun k_ hk_ hs_ => (hk_.1.2.1) hs_)) (fun k_ hk_ => ⟨hk_.1.1.1, hk_.1.1.2.1, hk_.1.2, hk_.1.1.2.2⟩)); have n2_ := Aside0.mk (Kd.R_reok rfl hy0 (fun k_ e_ => HO_343002.out.1 k_ e_)); have n3_ := Aside0.mk (blk_kept zk2 hkp (fun hs_ => (fun e_ => (Kd.R_ne HO_343002.out BK323.out (by decide)) e_) hs_)); have n4_ := Aside0.mk (blk_kept zk3 hkp (fun hs_ => (fun e_ => (Kd.R_ne HO_343002.out BK324.out (by decide)) e_) hs_)); have n5_ := Aside0.mk (blk_kept zk6 hkp (fun hs_ => (fun e_ => (Kd.R_ne HO_343002.out BK342.out (by decide)) e_) hs_)); have n6_ := Aside0.mk (Kd.R_mono (ok' := fun k_ => some k_ ≠ (.slice Ao33 t339.length co33 : Value).ownBlock) (Kd.R_keptB (HO354.out) hkp (fun k_ hk_ hs_ => (hk_.2) hs_)) (fun k_ hk_ => hk_.1.2)); have n7_ := Aside0.mk (hb); have n8_ := Aside0.mk (show nb377_ ≤ w57.heap.size from zk5); clear HO_6; clear HO_9; clear HO_343002; clear BK323; clear BK324; clear BK342; clear HO354; clear HB; clear HNB377; have HO_6 := n0_; have HO_9 := n1_; have HO_343002 := n2_; have BK323 := n3_; have BK324 := n4_; have BK342 := n5_; have HO354 := n6_; have HB := n7_; have HNB377 := n8_; clear n0_ n1_ n2_ n3_ n4_ n5_ n6_ n7_ n8_; (try clear hb); (try clear hkp); (try clear hy0)))
   (try simp only [Act.put, List.setIfInBounds_toArray, List.set_cons_zero, List.set_cons_succ])
   go_cut [67] (fun v67 wc => ∃ (kq : Nat) (x67_48 : Bool), v67 = .bool x67_48 ∧ Aside0 (laws_FnExactPartsOfBoard.j1 kq t333 t336 t345 x67_48 a0_0 a0_1 l0_2 a1_0 a1_1 = some r) ∧ Aside0 (kq ≤ kj15) ∧ Aside0 (Kd.S (Kd.slice 3 (Kd.int .i64)) 22 wc w.heap.size (fun k_ => some k_ ≠ (v346 : Value).ownBlock ∧ some k_ ≠ ((.slice Ao33 t339.length co33) : Value).ownBlock ∧ k_ ≠ (rngIn na377_ nb377_ k_)) v334 t333) ∧ Aside0 (Kd.S (Kd.slice 3 (Kd.int .i64)) 22 wc w.heap.size (fun k_ => some k_ ≠ (v334 : Value).ownBlock ∧ some k_ ≠ ((.slice Ao33 t339.length co33) : Value).ownBlock ∧ k_ ≠ (rngOut na377_ nb377_ k_)) v346 t345) ∧ Aside0 (Kd.R (Kd.int .i64) 3 wc w.heap.size (fun _ => True) (.slice Ao33 t339.length co33) t357) ∧ Aside0 (wc.heap[gb323]? = some (.cells #[.int .i64 a0_0, .int .i64 a0_1, (.slice A0_2 l0_2.length c0_2)] 24 (0, 0))) ∧ Aside0 (wc.heap[gb324]? = some (.cells #[.int .i64 a1_0, .int .i64 a1_1] 26 (0, 0))) ∧ Aside0 (wc.heap[gb342]? = some (.cells #[.int .i64 t337, .int .i64 t338, (.slice Ao33 t339.length co33)] 30 (0, 0))) ∧ Aside0 (nb377_ ≤ wc.heap.size) ∧ Aside0 (Below w.heap.size w wc))
   case first =>
    have H := HC49.out
    clear HC49
    by_cases c58 : t356 < 0
    ·rw [if_pos c58] at H
     have c58b0 : decide (t356 < 0) = true := decide_eq_true c58
     clear c58
     (first | rw [c58b0] | (simp only [i64_w, i32_w]; rw [c58b0]) | skip)
     have H' := Aside0.mk H
     clear H
     go_wp2
     go_meet
     case rel => exact ⟨_, (true), zk25, H', ⟨by have := HJ15.out; first | omega | exact Nat.le_refl _⟩, ⟨zk22⟩, ⟨zk21⟩, ⟨zk24⟩, ⟨zk2⟩, ⟨zk3⟩, ⟨zk6⟩, ⟨zk17⟩, ⟨zk1⟩⟩
    rw [if_neg c58] at H
    have c58b0 : decide (t356 < 0) = false := decide_eq_false c58
    clear c58
    (first | rw [c58b0] | (simp only [i64_w, i32_w]; rw [c58b0]) | skip)
    replace H := Option.bind_eq_some_iff.mp H
    obtain ⟨t358, A590, H⟩ := H
    replace H : (if t358 = true then (laws_FnExactPartsOfBoard.j1 kj15 t333 t336 t345 (t348 != t336) a0_0 a0_1 l0_2 a1_0 a1_1) else (laws_FnExactPartsOfBoard.j1 kj15 t333 t336 t345 true a0_0 a0_1 l0_2 a1_0 a1_1)) = some r := H
    have A59 := Aside0.mk A590
    clear A590
    by_cases c60 : t358 = true
    ·subst c60
     have H1 : (laws_FnExactPartsOfBoard.j1 kj15 t333 t336 t345 (t348 != t336) a0_0 a0_1 l0_2 a1_0 a1_1) = some r := by rw [if_pos rfl] at H; exact H
     clear H
     have H := H1
     clear H1
     have H' := Aside0.mk H
     clear H
     obtain ⟨Ao61, co61, eo61⟩ := Kd.S_slice HO_9.out
     subst eo61
     obtain ⟨Ao62, co62, eo62⟩ := Kd.S_slice HO_6.out
     subst eo62
     go_wp2_with (first | (go_at_call 13; (with_reducible refine (laws_eqIntSS.calls kj15 _ _ t345 _ _ t333 true _ ?side1 ?side2 ?side3 ?side4 A59.out).mono ?_); (case side1 => exact zk9); (case side2 => exact (Kd.S_reads' HO_9.out).2.1); (case side3 => exact zk18); (case side4 => exact (Kd.S_reads' HO_6.out).2.1); rintro e w' ⟨rfl, ⟨nd, rfl⟩⟩))
     go_meet
     case rel => exact ⟨_, ((t348 != t336)), zk25, H', ⟨by have := HJ15.out; first | omega | exact Nat.le_refl _⟩, ⟨zk22⟩, ⟨zk21⟩, ⟨zk24⟩, ⟨zk2⟩, ⟨zk3⟩, ⟨zk6⟩, ⟨zk17⟩, ⟨zk1⟩⟩
    replace c60 := Bool.eq_false_iff.mpr c60
    subst c60
    have H1 : (laws_FnExactPartsOfBoard.j1 kj15 t333 t336 t345 true a0_0 a0_1 l0_2 a1_0 a1_1) = some r := by rw [if_neg (show ¬ (false = true) by decide)] at H; exact H
    clear H
    have H := H1
    clear H1
    have H' := Aside0.mk H
    clear H
    obtain ⟨Ao63, co63, eo63⟩ := Kd.S_slice HO_9.out
    subst eo63
    obtain ⟨Ao64, co64, eo64⟩ := Kd.S_slice HO_6.out
    subst eo64
    go_wp2_with (first | (go_at_call 13; (with_reducible refine (laws_eqIntSS.calls kj15 _ _ t345 _ _ t333 false _ ?side1 ?side2 ?side3 ?side4 A59.out).mono ?_); (case side1 => exact zk9); (case side2 => exact (Kd.S_reads' HO_9.out).2.1); (case side3 => exact zk18); (case side4 => exact (Kd.S_reads' HO_6.out).2.1); rintro e w' ⟨rfl, ⟨nd, rfl⟩⟩))
    go_meet
    case rel => exact ⟨_, (true), zk25, H', ⟨by have := HJ15.out; first | omega | exact Nat.le_refl _⟩, ⟨zk22⟩, ⟨zk21⟩, ⟨zk24⟩, ⟨zk2⟩, ⟨zk3⟩, ⟨zk6⟩, ⟨zk17⟩, ⟨zk1⟩⟩
   case rest =>
    clear HC49
    try clear c1; try clear p2; try clear c3; try clear c4; try clear c4b0; try clear c5; try clear c6; try clear c7; try clear c8; try clear c10; try clear c11; try clear c12; try clear c13; try clear c14; try clear c19; try clear c30; try clear c31; try clear c39; try clear c44; try clear c47; try clear c54; try clear c55; try clear c58; try clear c58b0; try clear c60; try clear hcz20_0; try clear hcz20_1; try clear hcz20_2; try clear hcz27_0; try clear hcz27_1; try clear hcz27_2; try clear hcz32_0; try clear hcz32_1; try clear hcz32_2; try clear hcz56_0; try clear hcz56_1; try clear hcz56_2; try clear hcz8_0
    try clear hcz8_1; try clear hcz8_2; try clear hfz20_0; try clear hfz20_1; try clear hfz20_2; try clear hfz27_0; try clear hfz27_1; try clear hfz27_2; try clear hfz32_0; try clear hfz32_1; try clear hfz32_2; try clear hfz56_0; try clear hfz56_1; try clear hfz56_2; try clear hfz8_0; try clear hfz8_1; try clear hfz8_2; try clear p2
    obtain ⟨kq, x67_48, rfl, HA, HJ48, HO_6, HO_9, HO_343002, BK323, BK324, BK342, HNB377, HB⟩ := hcut
    have hl343002_48 := (Kd.R_reads' HO_343002.out).1
    rw [hl343002_48] at HO_343002
    (try simp only [hl343002_48])
    (try simp only [hl343002_48] at BK323)
    (try simp only [hl343002_48] at BK324)
    (try simp only [hl343002_48] at BK342)
    (try simp only [hl343002_48] at HO_6)
    (try simp only [hl343002_48] at HO_9)
    cases kq with
    | zero => exact absurd HA.out (by simp [laws_FnExactPartsOfBoard.j1])
    | succ kj48 =>
     have H := HA.out
     clear HA
     simp only [laws_FnExactPartsOfBoard.j1] at H
     by_cases c65 : x67_48 = true
     ·subst c65
      have H1 : (some false) = some r := by rw [if_pos rfl] at H; exact H
      clear H
      have H := H1
      clear H1
      obtain rfl := Option.some.inj H
      go_wp2
      go_ret
      exact ⟨zk12, zk1⟩
     replace c65 := Bool.eq_false_iff.mpr c65
     subst c65
     have H1 : ((laws_markIntSS.f t345 1).bind fun bt359 => ((laws_heldIntSS.f kj48 bt359.2 1).bind fun t361 => (if t361 < 0 then (some false) else (if t361 = bt359.1 then ((laws_toBoard.f kj48 a0_0 a0_1 l0_2).bind fun bt362 => ((laws_toLeaper.f a1_0 a1_1).bind fun bt367 => ((impl_PartsOfBoard.f kj48 bt362.1 bt362.2.1 bt362.2.2 bt367.1 bt367.2).bind fun bt369 => ((laws_eqIntSS.f kj48 bt369.1 t333).bind fun t373 => (if t373 = true then (laws_FnExactPartsOfBoard.j2 kj48 bt359.2 bt359.1 (bt369.2 != t336)) else (laws_FnExactPartsOfBoard.j2 kj48 bt359.2 bt359.1 true)))))) else (some false))))) = some r := by rw [if_neg (show ¬ (false = true) by decide)] at H; exact H
     clear H
     have H := H1
     clear H1
     replace H := Option.bind_eq_some_iff.mp H
     obtain ⟨⟨t359, t360⟩, A660, H⟩ := H
     replace H : ((laws_heldIntSS.f kj48 t360 1).bind fun t361 => (if t361 < 0 then (some false) else (if t361 = t359 then ((laws_toBoard.f kj48 a0_0 a0_1 l0_2).bind fun bt362 => ((laws_toLeaper.f a1_0 a1_1).bind fun bt367 => ((impl_PartsOfBoard.f kj48 bt362.1 bt362.2.1 bt362.2.2 bt367.1 bt367.2).bind fun bt369 => ((laws_eqIntSS.f kj48 bt369.1 t333).bind fun t373 => (if t373 = true then (laws_FnExactPartsOfBoard.j2 kj48 t360 t359 (bt369.2 != t336)) else (laws_FnExactPartsOfBoard.j2 kj48 t360 t359 true)))))) else (some false)))) = some r := H
     have A66 := Aside0.mk A660
     clear A660
     replace H := Option.bind_eq_some_iff.mp H
     obtain ⟨t361, A670, H⟩ := H
     replace H : (if t361 < 0 then (some false) else (if t361 = t359 then ((laws_toBoard.f kj48 a0_0 a0_1 l0_2).bind fun bt362 => ((laws_toLeaper.f a1_0 a1_1).bind fun bt367 => ((impl_PartsOfBoard.f kj48 bt362.1 bt362.2.1 bt362.2.2 bt367.1 bt367.2).bind fun bt369 => ((laws_eqIntSS.f kj48 bt369.1 t333).bind fun t373 => (if t373 = true then (laws_FnExactPartsOfBoard.j2 kj48 t360 t359 (bt369.2 != t336)) else (laws_FnExactPartsOfBoard.j2 kj48 t360 t359 true)))))) else (some false))) = some r := H
     have A67 := Aside0.mk A670
     clear A670
     by_cases c68 : t361 < 0
     ·rw [if_pos c68] at H
      have c68b0 : decide (t361 < 0) = true := decide_eq_true c68
      clear c68
      obtain rfl := Option.some.inj H
      obtain ⟨Ao69, co69, eo69⟩ := Kd.S_slice HO_9.out
      subst eo69
      go_wp2_with (first | ((with_reducible refine gate_callee (f := 15) rfl ?_); refine goesL_ (some 70) rfl rfl Try.func15 (by kernel_rfl) rfl #[.slice Ao69 t345.length co69, .int .i64 1] rfl zk4 ?_; (with_reducible refine (laws_markIntSS.calls (fun k_ => (some k_ ≠ (v334 : Value).ownBlock ∧ (some k_ ≠ (.slice Ao33 t357.length co33 : Value).ownBlock ∧ k_ ≠ (rngOut na377_ nb377_ k_))) ∧ (k_ ≠ gb323 ∧ k_ ≠ gb324 ∧ k_ ≠ gb342)) (.slice Ao69 t345.length co69) t345 1 t359 t360 w _ ?side1 ?side2 A66.out).mono ?_); (case side1 => exact zk1); (case side2 => exact Kd.S_mono (Kd.S_types (Kd.S_types (Kd.S_types zk10 zk2 (by decide)) zk3 (by decide)) zk6 (by decide)) (fun k_ hk_ => ⟨hk_.1.1.1, hk_.1.1.2, hk_.1.2, hk_.2⟩)); rintro e w70 ⟨rfl, hy0, hb, hkp⟩; refine ⟨_, rfl, ?_⟩; have n0_ := Aside0.mk (Kd.S_mono (ok' := fun k_ => some k_ ≠ (.slice Ao69 t345.length co69 : Value).ownBlock ∧ some k_ ≠ (.slice Ao33 t357.length co33 : Value).ownBlock ∧ k_ ≠ (rngIn na377_ nb377_ k_)) (Kd.S_keptB (HO_6.out) hkp (fun k_ hk_ hs_ => rng_apart hs_.1.2.2 hk_.2.2)) (fun k_ hk_ => ⟨hk_.1.1, hk_.1.2.1, hk_.1.2.2⟩)); have n1_ := Aside0.mk (Kd.S_mono hy0 (fun k_ hk_ => hk_.1)); have n2_ := Aside0.mk (Kd.R_mono (ok' := fun k_ => True) (Kd.R_keptB (Kd.R_tight2 rfl HO_343002.out) hkp (fun k_ hk_ hs_ => hs_.1.2.1 hk_.1)) (fun k_ hk_ => trivial)); have n3_ := Aside0.mk (blk_kept zk2 hkp (fun hs_ => hs_.2.1 rfl)); have n4_ := Aside0.mk (blk_kept zk3 hkp (fun hs_ => hs_.2.2.1 rfl)); have n5_ := Aside0.mk (blk_kept zk6 hkp (fun hs_ => hs_.2.2.2 rfl)); have n6_ := Aside0.mk (hb); have n7_ := Aside0.mk (show nb377_ ≤ w70.heap.size from zk5); clear HO_6; clear HO_9; clear HO_343002; clear BK323; clear BK324; clear BK342; clear HB; clear HNB377; have HO_6 := n0_; have HO_9 := n1_; have HO_343002 := n2_; have BK323 := n3_; have BK324 := n4_; have BK342 := n5_; have HB := n6_; have HNB377 := n7_; clear n0_ n1_ n2_ n3_ n4_ n5_ n6_ n7_; (try clear hb); (try clear hkp); (try clear hy0)) | ((with_reducible refine gate_callee (f := 16) rfl ?_); refine goesL_ (some 73) rfl rfl Try.func16 (by kernel_rfl) rfl #[.slice Ao69 t360.length co69, .int .i64 1] rfl zk19 ?_; (with_reducible refine (laws_heldIntSS.calls kj48 _ _ t360 1 t361 _ ?side1 ?side2 A67.out).mono ?_); (case side1 => exact zk9); (case side2 => exact zk27); rintro e w' ⟨rfl, ⟨nd, rfl⟩⟩; refine ⟨_, rfl, ?_⟩))
      go_ret
      exact ⟨zk12, zk1⟩
     rw [if_neg c68] at H
     have c68b0 : decide (t361 < 0) = false := decide_eq_false c68
     clear c68
     by_cases c71 : t361 = t359
     rotate_left
     ·rw [if_neg c71] at H
      have c71b0 : (t361 == t359) = false := beq_eq_false_iff_ne.mpr c71
      have c71b1 : (t361 != t359) = true := bne_iff_ne.mpr c71
      obtain rfl := Option.some.inj H
      obtain ⟨Ao93, co93, eo93⟩ := Kd.S_slice HO_9.out
      subst eo93
      go_wp2_with (first | ((with_reducible refine gate_callee (f := 15) rfl ?_); refine goesL_ (some 70) rfl rfl Try.func15 (by kernel_rfl) rfl #[.slice Ao93 t345.length co93, .int .i64 1] rfl zk4 ?_; (with_reducible refine (laws_markIntSS.calls (fun k_ => (some k_ ≠ (v334 : Value).ownBlock ∧ (some k_ ≠ (.slice Ao33 t357.length co33 : Value).ownBlock ∧ k_ ≠ (rngOut na377_ nb377_ k_))) ∧ (k_ ≠ gb323 ∧ k_ ≠ gb324 ∧ k_ ≠ gb342)) (.slice Ao93 t345.length co93) t345 1 t359 t360 w _ ?side1 ?side2 A66.out).mono ?_); (case side1 => exact zk1); (case side2 => exact Kd.S_mono (Kd.S_types (Kd.S_types (Kd.S_types zk10 zk2 (by decide)) zk3 (by decide)) zk6 (by decide)) (fun k_ hk_ => ⟨hk_.1.1.1, hk_.1.1.2, hk_.1.2, hk_.2⟩)); rintro e w94 ⟨rfl, hy0, hb, hkp⟩; refine ⟨_, rfl, ?_⟩; have n0_ := Aside0.mk (Kd.S_mono (ok' := fun k_ => some k_ ≠ (.slice Ao93 t345.length co93 : Value).ownBlock ∧ some k_ ≠ (.slice Ao33 t357.length co33 : Value).ownBlock ∧ k_ ≠ (rngIn na377_ nb377_ k_)) (Kd.S_keptB (HO_6.out) hkp (fun k_ hk_ hs_ => rng_apart hs_.1.2.2 hk_.2.2)) (fun k_ hk_ => ⟨hk_.1.1, hk_.1.2.1, hk_.1.2.2⟩)); have n1_ := Aside0.mk (Kd.S_mono hy0 (fun k_ hk_ => hk_.1)); have n2_ := Aside0.mk (Kd.R_mono (ok' := fun k_ => True) (Kd.R_keptB (Kd.R_tight2 rfl HO_343002.out) hkp (fun k_ hk_ hs_ => hs_.1.2.1 hk_.1)) (fun k_ hk_ => trivial)); have n3_ := Aside0.mk (blk_kept zk2 hkp (fun hs_ => hs_.2.1 rfl)); have n4_ := Aside0.mk (blk_kept zk3 hkp (fun hs_ => hs_.2.2.1 rfl)); have n5_ := Aside0.mk (blk_kept zk6 hkp (fun hs_ => hs_.2.2.2 rfl)); have n6_ := Aside0.mk (hb); have n7_ := Aside0.mk (show nb377_ ≤ w94.heap.size from zk5); clear HO_6; clear HO_9; clear HO_343002; clear BK323; clear BK324; clear BK342; clear HB; clear HNB377; have HO_6 := n0_; have HO_9 := n1_; have HO_343002 := n2_; have BK323 := n3_; have BK324 := n4_; have BK342 := n5_; have HB := n6_; have HNB377 := n7_; clear n0_ n1_ n2_ n3_ n4_ n5_ n6_ n7_; (try clear hb); (try clear hkp); (try clear hy0)) | ((with_reducible refine gate_callee (f := 16) rfl ?_); refine goesL_ (some 73) rfl rfl Try.func16 (by kernel_rfl) rfl #[.slice Ao93 t360.length co93, .int .i64 1] rfl zk19 ?_; (with_reducible refine (laws_heldIntSS.calls kj48 _ _ t360 1 t361 _ ?side1 ?side2 A67.out).mono ?_); (case side1 => exact zk9); (case side2 => exact zk27); rintro e w' ⟨rfl, ⟨nd, rfl⟩⟩; refine ⟨_, rfl, ?_⟩))
      go_ret
      exact ⟨zk12, zk1⟩
     rw [if_pos c71] at H
     have c71b0 : (t361 == t359) = true := beq_iff_eq.mpr c71
     have c71b1 : (t361 != t359) = false := bne_eq_false_iff_eq.mpr c71
     clear c71
     replace H := Option.bind_eq_some_iff.mp H
     obtain ⟨⟨t362, t363, t364⟩, A720, H⟩ := H
     replace H : ((laws_toLeaper.f a1_0 a1_1).bind fun bt367 => ((impl_PartsOfBoard.f kj48 t362 t363 t364 bt367.1 bt367.2).bind fun bt369 => ((laws_eqIntSS.f kj48 bt369.1 t333).bind fun t373 => (if t373 = true then (laws_FnExactPartsOfBoard.j2 kj48 t360 t359 (bt369.2 != t336)) else (laws_FnExactPartsOfBoard.j2 kj48 t360 t359 true))))) = some r := H
     have A72 := Aside0.mk A720
     clear A720
     replace H := Option.bind_eq_some_iff.mp H
     obtain ⟨⟨t367, t368⟩, A730, H⟩ := H
     replace H : ((impl_PartsOfBoard.f kj48 t362 t363 t364 t367 t368).bind fun bt369 => ((laws_eqIntSS.f kj48 bt369.1 t333).bind fun t373 => (if t373 = true then (laws_FnExactPartsOfBoard.j2 kj48 t360 t359 (bt369.2 != t336)) else (laws_FnExactPartsOfBoard.j2 kj48 t360 t359 true)))) = some r := H
     have A73 := Aside0.mk A730
     clear A730
     replace H := Option.bind_eq_some_iff.mp H
     obtain ⟨⟨t369, t372⟩, A740, H⟩ := H
     replace H : ((laws_eqIntSS.f kj48 t369 t333).bind fun t373 => (if t373 = true then (laws_FnExactPartsOfBoard.j2 kj48 t360 t359 (t372 != t336)) else (laws_FnExactPartsOfBoard.j2 kj48 t360 t359 true))) = some r := H
     have A74 := Aside0.mk A740
     clear A740
     have HC75 := Aside0.mk H
     clear H
     obtain ⟨Ao76, co76, eo76⟩ := Kd.S_slice HO_9.out
     subst eo76
     try go_wp2_with (first | ((with_reducible refine gate_callee (f := 15) rfl ?_); refine goesL_ (some 70) rfl rfl Try.func15 (by kernel_rfl) rfl #[.slice Ao76 t345.length co76, .int .i64 1] rfl zk4 ?_; (with_reducible refine (laws_markIntSS.calls (fun k_ => (some k_ ≠ (v334 : Value).ownBlock ∧ (some k_ ≠ (.slice Ao33 t357.length co33 : Value).ownBlock ∧ k_ ≠ (rngOut na377_ nb377_ k_))) ∧ (k_ ≠ gb323 ∧ k_ ≠ gb324 ∧ k_ ≠ gb342)) (.slice Ao76 t345.length co76) t345 1 t359 t360 w _ ?side1 ?side2 A66.out).mono ?_); (case side1 => exact zk1); (case side2 => exact Kd.S_mono (Kd.S_types (Kd.S_types (Kd.S_types zk10 zk2 (by decide)) zk3 (by decide)) zk6 (by decide)) (fun k_ hk_ => ⟨hk_.1.1.1, hk_.1.1.2, hk_.1.2, hk_.2⟩)); rintro e w77 ⟨rfl, hy0, hb, hkp⟩; refine ⟨_, rfl, ?_⟩; have n0_ := Aside0.mk (Kd.S_mono (ok' := fun k_ => some k_ ≠ (.slice Ao76 t345.length co76 : Value).ownBlock ∧ some k_ ≠ (.slice Ao33 t357.length co33 : Value).ownBlock ∧ k_ ≠ (rngIn na377_ nb377_ k_)) (Kd.S_keptB (HO_6.out) hkp (fun k_ hk_ hs_ => rng_apart hs_.1.2.2 hk_.2.2)) (fun k_ hk_ => ⟨hk_.1.1, hk_.1.2.1, hk_.1.2.2⟩)); have n1_ := Aside0.mk (Kd.S_mono hy0 (fun k_ hk_ => hk_.1)); have n2_ := Aside0.mk (Kd.R_mono (ok' := fun k_ => True) (Kd.R_keptB (Kd.R_tight2 rfl HO_343002.out) hkp (fun k_ hk_ hs_ => hs_.1.2.1 hk_.1)) (fun k_ hk_ => trivial)); have n3_ := Aside0.mk (blk_kept zk2 hkp (fun hs_ => hs_.2.1 rfl)); have n4_ := Aside0.mk (blk_kept zk3 hkp (fun hs_ => hs_.2.2.1 rfl)); have n5_ := Aside0.mk (blk_kept zk6 hkp (fun hs_ => hs_.2.2.2 rfl)); have n6_ := Aside0.mk (hb); have n7_ := Aside0.mk (show nb377_ ≤ w77.heap.size from zk5); clear HO_6; clear HO_9; clear HO_343002; clear BK323; clear BK324; clear BK342; clear HB; clear HNB377; have HO_6 := n0_; have HO_9 := n1_; have HO_343002 := n2_; have BK323 := n3_; have BK324 := n4_; have BK342 := n5_; have HB := n6_; have HNB377 := n7_; clear n0_ n1_ n2_ n3_ n4_ n5_ n6_ n7_; (try clear hb); (try clear hkp); (try clear hy0)) | ((with_reducible refine gate_callee (f := 16) rfl ?_); refine goesL_ (some 73) rfl rfl Try.func16 (by kernel_rfl) rfl #[.slice Ao76 t360.length co76, .int .i64 1] rfl zk19 ?_; (with_reducible refine (laws_heldIntSS.calls kj48 _ _ t360 1 t361 _ ?side1 ?side2 A67.out).mono ?_); (case side1 => exact zk9); (case side2 => exact zk27); rintro e w' ⟨rfl, ⟨nd, rfl⟩⟩; refine ⟨_, rfl, ?_⟩))
     (try (rw [drewN_self w77]; generalize hq_ : World.drewN w77 _ = w77; have n0_ : Aside0 (Kd.R (Kd.int .i64) 3 w77 w.heap.size (fun k_ => True) (.slice Ao33 t357.length co33) t357) := ⟨by rw [← hq_]; exact zk8⟩; have n1_ : Aside0 (Kd.S (Kd.slice 3 (Kd.int .i64)) 22 w77 w.heap.size (fun k_ => (some k_ ≠ (.slice Ao76 t345.length co76 : Value).ownBlock ∧ (some k_ ≠ (.slice Ao33 t357.length co33 : Value).ownBlock ∧ k_ ≠ (rngIn na377_ nb377_ k_)))) v334 t333) := ⟨by rw [← hq_]; exact zk15⟩; have n2_ : Aside0 (Kd.S (Kd.slice 3 (Kd.int .i64)) 22 w77 w.heap.size (fun k_ => (some k_ ≠ (v334 : Value).ownBlock ∧ (some k_ ≠ (.slice Ao33 t357.length co33 : Value).ownBlock ∧ k_ ≠ (rngOut na377_ nb377_ k_)))) (.slice Ao76 t345.length co76) t360) := ⟨by rw [← hq_]; exact zk10⟩; have n3_ : Aside0 (w77.heap[gb323]? = some (.cells #[.int .i64 a0_0, .int .i64 a0_1, .slice A0_2 l0_2.length c0_2] 24 (0, 0))) := ⟨by rw [← hq_]; exact zk2⟩; have n4_ : Aside0 (w77.heap[gb324]? = some (.cells #[.int .i64 a1_0, .int .i64 a1_1] 26 (0, 0))) := ⟨by rw [← hq_]; exact zk3⟩; have n5_ : Aside0 (w77.heap[gb342]? = some (.cells #[.int .i64 t337, .int .i64 t338, .slice Ao33 t357.length co33] 30 (0, 0))) := ⟨by rw [← hq_]; exact zk6⟩; have n6_ : Aside0 (nb377_ ≤ w77.heap.size) := ⟨by rw [← hq_]; exact zk17⟩; have n7_ : Aside0 (Below w.heap.size w w77) := ⟨by rw [← hq_]; exact zk1⟩; clear HO_343002 HO_6 HO_9 BK323 BK324 BK342 HNB377 HB hq_; have HO_343002 := n0_; have HO_6 := n1_; have HO_9 := n2_; have BK323 := n3_; have BK324 := n4_; have BK342 := n5_; have HNB377 := n6_; have HB := n7_; clear n0_ n1_ n2_ n3_ n4_ n5_ n6_ n7_))
     have n0_ := Aside0.mk (Kd.S_drew HO_6.out)
     have n1_ := Aside0.mk (Kd.S_drew HO_9.out)
     have n2_ := Aside0.mk (Kd.R_drew HO_343002.out)
     have n3_ := Aside0.mk (blk_drew BK323.out)
     have n4_ := Aside0.mk (blk_drew BK324.out)
     have n5_ := Aside0.mk (blk_drew BK342.out)
     have n6_ := Aside0.mk (below_drew1 HB.out)
     have n7_ := Aside0.mk (show nb377_ ≤ (w77.drew).heap.size from zk17)
     clear HO_6
     clear HO_9
     clear HO_343002
     clear BK323
     clear BK324
     clear BK342
     clear HB
     clear HNB377
     have HO_6 := n0_
     have HO_9 := n1_
     have HO_343002 := n2_
     have BK323 := n3_
     have BK324 := n4_
     have BK342 := n5_
     have HB := n6_
     have HNB377 := n7_
     clear n0_ n1_ n2_ n3_ n4_ n5_ n6_ n7_
     refine start_ (n := 10) (S := fun w' => w'.cell? ⟨gb323, 0, none⟩ = some (.int .i64 a0_0) ∧ w'.cell? ⟨gb323, 1, none⟩ = some (.int .i64 a0_1) ∧ w'.cell? ⟨gb323, 2, none⟩ = some (.slice A0_2 l0_2.length c0_2) ∧ w'.cell? ⟨gb324, 0, none⟩ = some (.int .i64 a1_0) ∧ w'.cell? ⟨gb324, 1, none⟩ = some (.int .i64 a1_1)) (ds := []) #[false, false, false, false, false, false, false, false, false, false] (by kernel_rfl) rfl rfl ⟨(blk_cell BK323.out 0).trans rfl, (blk_cell BK323.out 1).trans rfl, (blk_cell BK323.out 2).trans rfl, (blk_cell BK324.out 0).trans rfl, (blk_cell BK324.out 1).trans rfl⟩ (fun hHeld => ?_); refine with_tabW laws_FnExactPartsOfBoard.tab24 laws_FnExactPartsOfBoard.bits24 (fun HT_ HW_ => ?_)
     generalize w77.drew = w78 at HO_6 HO_9 HO_343002 BK323 BK324 BK342 HNB377 HB hHeld ⊢
     refine take_ (i := 0) (N := some 80) (v := ?_) (a' := ?_) #[true, false, false, false, false, false, false, false, false, false] rfl rfl (take_ofW HT_.out HW_.out (by kernel_rfl)) (fun _ _ _ h => h) (Or.inl ⟨by rfl, ?_⟩) hHeld ?_ ?_
     rotate_left
     ·rintro w' ⟨s0, s1, s2, s3, s4⟩
      go_simp
      with_reducible rfl
     rotate_left
     ·simp only [Act.put, List.setIfInBounds_toArray, List.set_cons_zero, List.set_cons_succ, i64_w, i32_w]
      rfl
     refine take_ (i := 2) (N := some 82) (v := ?_) (a' := ?_) #[true, false, true, false, false, false, false, false, false, false] rfl rfl (take_ofW HT_.out HW_.out (by kernel_rfl)) (fun _ _ _ h => h) (Or.inl ⟨by rfl, ?_⟩) hHeld ?_ ?_
     rotate_left
     ·rintro w' ⟨s0, s1, s2, s3, s4⟩
      go_simp
      with_reducible rfl
     rotate_left
     ·simp only [Act.put, List.setIfInBounds_toArray, List.set_cons_zero, List.set_cons_succ, i64_w, i32_w]
      rfl
     refine one_ (i := 1) (N := some 81) #[true, true, true, false, false, false, false, false, false, false] rfl rfl (one_of HT_.out (by kernel_rfl)) (by decide) (fun K hK => ?_)
     refine goes_ Try.func7 (by kernel_rfl) rfl #[.agg #[.int .i64 a0_0, .int .i64 a0_1, .slice A0_2 l0_2.length c0_2]] (by rfl) rfl rfl zk4 ?_
     with_reducible refine (laws_toBoard.calls kj48 a0_0 a0_1 _ _ l0_2 t362 t363 t364 _ ?side1 ?side2 A72.out).mono ?_
     (case side1 => exact zk11)
     (case side2 => exact HC0_2.out)
     rintro e w79 ⟨v365, rfl, ho0, hb⟩
     refine ⟨_, rfl, ?_⟩
     have n0_ := Aside0.mk (Kd.S_elder' zk15 (Kd.R_base ho0) hb)
     have n1_ := Aside0.mk (Kd.S_elder' zk10 (Kd.R_base ho0) hb)
     have n2_ := Aside0.mk (Kd.R_elder' zk8 (Kd.R_base ho0) hb)
     have n3_ := Aside0.mk (Kd.R_lower (Kd.R_new' ho0 (Kd.R_lt zk8)) (below_size zk1))
     have n4_ := Aside0.mk (blk_below (g := gb323) (o := .cells #[.int .i64 a0_0, .int .i64 a0_1, .slice A0_2 l0_2.length c0_2] 24 (0, 0)) zk2 hb)
     have n5_ := Aside0.mk (blk_below (g := gb324) (o := .cells #[.int .i64 a1_0, .int .i64 a1_1] 26 (0, 0)) zk3 hb)
     have n6_ := Aside0.mk (blk_below (g := gb342) (o := .cells #[.int .i64 t337, .int .i64 t338, .slice Ao33 t357.length co33] 30 (0, 0)) zk6 hb)
     have n7_ := Aside0.mk (below_step zk1 hb)
     have n8_ := Aside0.mk (show nb377_ ≤ w79.heap.size from zk5)
     clear HO_6
     clear HO_9
     clear HO_343002
     clear BK323
     clear BK324
     clear BK342
     clear HB
     clear HNB377
     have HO_6 := n0_
     have HO_9 := n1_
     have HO_343002 := n2_
     have HO366 := n3_
     have BK323 := n4_
     have BK324 := n5_
     have BK342 := n6_
     have HB := n7_
     have HNB377 := n8_
     clear n0_ n1_ n2_ n3_ n4_ n5_ n6_ n7_ n8_
     (try clear hb)
     (try clear hb2)
     (try clear hk)
     (try clear hi)
     (try clear ho0)
     (try clear hna_)
     (try clear hnb_)
     refine hK.out _ _ ⟨(blk_cell BK323.out 0).trans rfl, (blk_cell BK323.out 1).trans rfl, (blk_cell BK323.out 2).trans rfl, (blk_cell BK324.out 0).trans rfl, (blk_cell BK324.out 1).trans rfl⟩ (fun hHeld => ?_)
     clear hK K
     refine norm_ (a' := ?_) ?_ ?_
     rotate_left
     ·show Act.put _ (some 81) _ = _
      simp only [Act.put, List.setIfInBounds_toArray, List.set_cons_zero, List.set_cons_succ, i64_w, i32_w]
      rfl
     refine one_ (i := 3) (N := some 83) #[true, true, true, true, false, false, false, false, false, false] rfl rfl (one_of HT_.out (by kernel_rfl)) (by decide) (fun K hK => ?_)
     refine goes_ Try.func8 (by kernel_rfl) rfl #[.agg #[.int .i64 a1_0, .int .i64 a1_1]] (by rfl) rfl rfl zk4 ?_
     with_reducible refine (laws_toLeaper.calls a1_0 a1_1 t367 t368 _ A73.out).mono ?_
     rintro e w80 ⟨rfl, hb⟩
     refine ⟨_, rfl, ?_⟩
     have n0_ := Aside0.mk (Kd.S_below zk15 hb)
     have n1_ := Aside0.mk (Kd.S_below zk10 hb)
     have n2_ := Aside0.mk (Kd.R_below zk8 hb)
     have n3_ := Aside0.mk (Kd.R_below zk26 hb)
     have n4_ := Aside0.mk (blk_below (g := gb323) (o := .cells #[.int .i64 a0_0, .int .i64 a0_1, .slice A0_2 l0_2.length c0_2] 24 (0, 0)) zk2 hb)
     have n5_ := Aside0.mk (blk_below (g := gb324) (o := .cells #[.int .i64 a1_0, .int .i64 a1_1] 26 (0, 0)) zk3 hb)
     have n6_ := Aside0.mk (blk_below (g := gb342) (o := .cells #[.int .i64 t337, .int .i64 t338, .slice Ao33 t357.length co33] 30 (0, 0)) zk6 hb)
     have n7_ := Aside0.mk (below_step zk1 hb)
     have n8_ := Aside0.mk (show nb377_ ≤ w80.heap.size from zk5)
     clear HO_6
     clear HO_9
     clear HO_343002
     clear HO366
     clear BK323
     clear BK324
     clear BK342
     clear HB
     clear HNB377
     have HO_6 := n0_
     have HO_9 := n1_
     have HO_343002 := n2_
     have HO366 := n3_
     have BK323 := n4_
     have BK324 := n5_
     have BK342 := n6_
     have HB := n7_
     have HNB377 := n8_
     clear n0_ n1_ n2_ n3_ n4_ n5_ n6_ n7_ n8_
     (try clear hb)
     (try clear hb2)
     (try clear hk)
     (try clear hi)
     (try clear hna_)
     (try clear hnb_)
     obtain ⟨Ao81, co81, eo81⟩ := Kd.R_slice HO366.out
     (first | subst eo81 | (injection eo81 with f1_ f2_ f3_; have f4_ := f1_.symm; have f5_ := f3_.symm; clear f1_ f2_ f3_; subst f4_; subst f5_))
     refine hK.out _ _ ⟨(blk_cell BK323.out 0).trans rfl, (blk_cell BK323.out 1).trans rfl, (blk_cell BK323.out 2).trans rfl, (blk_cell BK324.out 0).trans rfl, (blk_cell BK324.out 1).trans rfl⟩ (fun hHeld => ?_)
     clear hK K
     refine norm_ (a' := ?_) ?_ ?_
     rotate_left
     ·show Act.put _ (some 83) _ = _
      simp only [Act.put, List.setIfInBounds_toArray, List.set_cons_zero, List.set_cons_succ, i64_w, i32_w]
      rfl
     refine one_ (i := 4) (N := some 84) #[true, true, true, true, true, false, false, false, false, false] rfl rfl (one_of HT_.out (by kernel_rfl)) (by decide) (fun K hK => ?_)
     refine goes_ Try.func12 (by kernel_rfl) rfl #[.agg #[.int .i64 t362, .int .i64 t363, .slice Ao81 t364.length co81], .agg #[.int .i64 t367, .int .i64 t368]] (by rfl) rfl rfl zk4 ?_
     with_reducible refine (impl_PartsOfBoard.calls kj48 t362 t363 _ _ t364 t367 t368 t369 t372 _ ?side1 ?side2 A74.out).mono ?_
     (case side1 => repeat (first | exact (Kd.R_reads' HO366.out).2.2 | (with_reducible refine Kd.C_alloc ?_ _) | (with_reducible refine Kd.C_drewN ?_ _) | (with_reducible refine Kd.C_drew ?_)))
     (case side2 => exact (Kd.R_reads' HO366.out).2.1)
     rintro e w82 ⟨v370, rfl, ho0, hb⟩
     refine ⟨_, rfl, ?_⟩
     have n0_ := Aside0.mk (Kd.S_elder' zk15 (Kd.S_base ho0) hb)
     have n1_ := Aside0.mk (Kd.S_elder' zk10 (Kd.S_base ho0) hb)
     have n2_ := Aside0.mk (Kd.R_below zk8 hb)
     have n3_ := Aside0.mk (Kd.R_below zk26 hb)
     have n4_ := Aside0.mk (Kd.S_lower (Kd.S_new' (Kd.S_new' (Kd.S_new' (Kd.S_new' ho0 (Kd.S_lt zk15)) (Kd.S_lt zk10)) (Kd.R_lt zk8)) (Kd.R_lt zk26)) (below_size zk1))
     have n5_ := Aside0.mk (blk_below (g := gb323) (o := .cells #[.int .i64 a0_0, .int .i64 a0_1, .slice A0_2 l0_2.length c0_2] 24 (0, 0)) zk2 hb)
     have n6_ := Aside0.mk (blk_below (g := gb324) (o := .cells #[.int .i64 a1_0, .int .i64 a1_1] 26 (0, 0)) zk3 hb)
     have n7_ := Aside0.mk (blk_below (g := gb342) (o := .cells #[.int .i64 t337, .int .i64 t338, .slice Ao33 t357.length co33] 30 (0, 0)) zk6 hb)
     have n8_ := Aside0.mk (below_step zk1 hb)
     have n9_ := Aside0.mk (show nb377_ ≤ w82.heap.size from zk5)
     clear HO_6
     clear HO_9
     clear HO_343002
     clear HO366
     clear BK323
     clear BK324
     clear BK342
     clear HB
     clear HNB377
     have HO_6 := n0_
     have HO_9 := n1_
     have HO_343002 := n2_
     have HO366 := n3_
     have HO371 := n4_
     have BK323 := n5_
     have BK324 := n6_
     have BK342 := n7_
     have HB := n8_
     have HNB377 := n9_
     clear n0_ n1_ n2_ n3_ n4_ n5_ n6_ n7_ n8_ n9_
     (try clear hb)
     (try clear hb2)
     (try clear hk)
     (try clear hi)
     (try clear ho0)
     (try clear hna_)
     (try clear hnb_)
     refine hK.out _ _ ⟨(blk_cell BK323.out 0).trans rfl, (blk_cell BK323.out 1).trans rfl, (blk_cell BK323.out 2).trans rfl, (blk_cell BK324.out 0).trans rfl, (blk_cell BK324.out 1).trans rfl⟩ (fun hHeld => ?_)
     clear hK K
     refine norm_ (a' := ?_) ?_ ?_
     rotate_left
     ·show Act.put _ (some 84) _ = _
      simp only [Act.put, List.setIfInBounds_toArray, List.set_cons_zero, List.set_cons_succ, i64_w, i32_w]
      rfl
     refine pure_ (i := 5) (N := some 79) (v := ?_) (a' := ?_) #[true, true, true, true, true, true, false, false, false, false] rfl rfl (any_of HT_.out (by kernel_rfl)) (fun _ _ _ h => h) (Or.inl ⟨by rfl, ?_⟩) ?_ ?_
     rotate_left
     ·intro w'
      go_simp
      with_reducible rfl
     rotate_left
     ·simp only [Act.put, List.setIfInBounds_toArray, List.set_cons_zero, List.set_cons_succ, i64_w, i32_w]
      rfl
     refine pure_ (i := 6) (N := some 85) (v := ?_) (a' := ?_) #[true, true, true, true, true, true, true, false, false, false] rfl rfl (any_of HT_.out (by kernel_rfl)) (fun _ _ _ h => h) (Or.inl ⟨by rfl, ?_⟩) ?_ ?_
     rotate_left
     ·intro w'
      go_simp
      with_reducible rfl
     rotate_left
     ·simp only [Act.put, List.setIfInBounds_toArray, List.set_cons_zero, List.set_cons_succ, i64_w, i32_w]
      rfl
     refine pure_ (i := 7) (N := some 86) (v := ?_) (a' := ?_) #[true, true, true, true, true, true, true, true, false, false] rfl rfl (any_of HT_.out (by kernel_rfl)) (fun _ _ _ h => h) (Or.inl ⟨by rfl, ?_⟩) ?_ ?_
     rotate_left
     ·intro w'
      go_simp
      with_reducible rfl
     rotate_left
     ·simp only [Act.put, List.setIfInBounds_toArray, List.set_cons_zero, List.set_cons_succ, i64_w, i32_w]
      rfl
     refine pure_ (i := 8) (N := some 14) (v := ?_) (a' := ?_) #[true, true, true, true, true, true, true, true, true, false] rfl rfl (any_of HT_.out (by kernel_rfl)) (fun _ _ _ h => h) (Or.inl ⟨by rfl, ?_⟩) ?_ ?_
     rotate_left
     ·intro w'
      go_simp
      with_reducible rfl
     rotate_left
     ·simp only [Act.put, List.setIfInBounds_toArray, List.set_cons_zero, List.set_cons_succ, i64_w, i32_w]
      rfl
     refine pure_ (i := 9) (N := some 15) (v := ?_) (a' := ?_) #[true, true, true, true, true, true, true, true, true, true] rfl rfl (any_of HT_.out (by kernel_rfl)) (fun _ _ _ h => h) (Or.inl ⟨by rfl, ?_⟩) ?_ ?_
     rotate_left
     ·intro w'
      go_simp
      with_reducible rfl
     rotate_left
     ·simp only [Act.put, List.setIfInBounds_toArray, List.set_cons_zero, List.set_cons_succ, i64_w, i32_w]
      rfl
     refine done_ (done_of HT_.out (by kernel_rfl)) ?_
     go_upto_region 25 with (fail)
     go_cut [95] (fun v95 wc => ∃ (kq : Nat) (x95_74 : Bool), v95 = .bool x95_74 ∧ Aside0 (laws_FnExactPartsOfBoard.j2 kq t360 t359 x95_74 = some r) ∧ Aside0 (kq ≤ kj48) ∧ Aside0 (Kd.S (Kd.slice 3 (Kd.int .i64)) 22 wc w.heap.size (fun k_ => some k_ ≠ ((.slice Ao33 t357.length co33) : Value).ownBlock ∧ k_ ≠ (rngOut na377_ nb377_ k_)) (.slice Ao76 t345.length co76) t360) ∧ Aside0 (Kd.R (Kd.int .i64) 3 wc w.heap.size (fun _ => True) (.slice Ao33 t357.length co33) t357) ∧ Aside0 (wc.heap[gb323]? = some (.cells #[.int .i64 a0_0, .int .i64 a0_1, (.slice A0_2 l0_2.length c0_2)] 24 (0, 0))) ∧ Aside0 (wc.heap[gb324]? = some (.cells #[.int .i64 a1_0, .int .i64 a1_1] 26 (0, 0))) ∧ Aside0 (wc.heap[gb342]? = some (.cells #[.int .i64 t337, .int .i64 t338, (.slice Ao33 t357.length co33)] 30 (0, 0))) ∧ Aside0 (nb377_ ≤ wc.heap.size) ∧ Aside0 (Below w.heap.size w wc))
     case first =>
      have H := HC75.out
      clear HC75
      replace H := Option.bind_eq_some_iff.mp H
      obtain ⟨t373, A830, H⟩ := H
      replace H : (if t373 = true then (laws_FnExactPartsOfBoard.j2 kj48 t360 t359 (t372 != t336)) else (laws_FnExactPartsOfBoard.j2 kj48 t360 t359 true)) = some r := H
      have A83 := Aside0.mk A830
      clear A830
      by_cases c84 : t373 = true
      ·subst c84
       have H1 : (laws_FnExactPartsOfBoard.j2 kj48 t360 t359 (t372 != t336)) = some r := by rw [if_pos rfl] at H; exact H
       clear H
       have H := H1
       clear H1
       have H' := Aside0.mk H
       clear H
       obtain ⟨Ao85, co85, eo85⟩ := Kd.S_slice HO371.out
       subst eo85
       obtain ⟨Ao86, co86, eo86⟩ := Kd.S_slice HO_6.out
       subst eo86
       go_wp2_with (first | ((with_reducible refine gate_callee (f := 13) rfl ?_); refine goesL_ (some 89) rfl rfl Try.func13 (by kernel_rfl) rfl #[.slice Ao85 t369.length co85, .slice Ao86 t333.length co86] rfl zk4 ?_; (with_reducible refine (laws_eqIntSS.calls kj48 _ _ t369 _ _ t333 true _ ?side1 ?side2 ?side3 ?side4 A83.out).mono ?_); (case side1 => exact zk33); (case side2 => exact (Kd.S_reads' HO371.out).2.1); (case side3 => exact zk18); (case side4 => exact (Kd.S_reads' HO_6.out).2.1); rintro e w' ⟨rfl, ⟨nd, rfl⟩⟩; refine ⟨_, rfl, ?_⟩))
       go_meet
       case rel => exact ⟨_, ((t372 != t336)), zk25, H', ⟨by have := HJ15.out; have := HJ48.out; first | omega | exact Nat.le_refl _⟩, ⟨zk28⟩, ⟨zk29⟩, ⟨zk39⟩, ⟨zk38⟩, ⟨zk37⟩, ⟨zk17⟩, ⟨zk1⟩⟩
      replace c84 := Bool.eq_false_iff.mpr c84
      subst c84
      have H1 : (laws_FnExactPartsOfBoard.j2 kj48 t360 t359 true) = some r := by rw [if_neg (show ¬ (false = true) by decide)] at H; exact H
      clear H
      have H := H1
      clear H1
      have H' := Aside0.mk H
      clear H
      obtain ⟨Ao87, co87, eo87⟩ := Kd.S_slice HO371.out
      subst eo87
      obtain ⟨Ao88, co88, eo88⟩ := Kd.S_slice HO_6.out
      subst eo88
      go_wp2_with (first | ((with_reducible refine gate_callee (f := 13) rfl ?_); refine goesL_ (some 89) rfl rfl Try.func13 (by kernel_rfl) rfl #[.slice Ao87 t369.length co87, .slice Ao88 t333.length co88] rfl zk4 ?_; (with_reducible refine (laws_eqIntSS.calls kj48 _ _ t369 _ _ t333 false _ ?side1 ?side2 ?side3 ?side4 A83.out).mono ?_); (case side1 => exact zk33); (case side2 => exact (Kd.S_reads' HO371.out).2.1); (case side3 => exact zk18); (case side4 => exact (Kd.S_reads' HO_6.out).2.1); rintro e w' ⟨rfl, ⟨nd, rfl⟩⟩; refine ⟨_, rfl, ?_⟩))
      go_meet
      case rel => exact ⟨_, (true), zk25, H', ⟨by have := HJ15.out; have := HJ48.out; first | omega | exact Nat.le_refl _⟩, ⟨zk28⟩, ⟨zk29⟩, ⟨zk39⟩, ⟨zk38⟩, ⟨zk37⟩, ⟨zk17⟩, ⟨zk1⟩⟩
     case rest =>
      clear HC75
      try clear c1; try clear p2; try clear c3; try clear c4; try clear c4b0; try clear c5; try clear c6; try clear c7; try clear c8; try clear c10; try clear c11; try clear c12; try clear c13; try clear c14; try clear c15; try clear c16; try clear c19; try clear c30; try clear c31; try clear c39; try clear c44; try clear c47; try clear c54; try clear c55; try clear c58; try clear c58b0; try clear c60; try clear c65; try clear c68; try clear c68b0; try clear c71; try clear c71b0; try clear c71b1; try clear c84; try clear hcz20_0; try clear hcz20_1; try clear hcz20_2; try clear hcz27_0; try clear hcz27_1
      try clear hcz27_2; try clear hcz32_0; try clear hcz32_1; try clear hcz32_2; try clear hcz56_0; try clear hcz56_1; try clear hcz56_2; try clear hcz8_0; try clear hcz8_1; try clear hcz8_2; try clear hfz20_0; try clear hfz20_1; try clear hfz20_2; try clear hfz27_0; try clear hfz27_1; try clear hfz27_2; try clear hfz32_0; try clear hfz32_1; try clear hfz32_2; try clear hfz56_0; try clear hfz56_1; try clear hfz56_2; try clear hfz8_0; try clear hfz8_1; try clear hfz8_2; try clear p2
      obtain ⟨kq, x95_74, rfl, HA, HJ74, HO_9, HO_343002, BK323, BK324, BK342, HNB377, HB⟩ := hcut
      have hl9_74 := (Kd.S_reads' HO_9.out).1
      rw [hl9_74] at HO_9
      (try simp only [hl9_74])
      (try simp only [hl9_74] at BK323)
      (try simp only [hl9_74] at BK324)
      (try simp only [hl9_74] at BK342)
      (try simp only [hl9_74] at HO_343002)
      cases kq with
      | zero => exact absurd HA.out (by simp [laws_FnExactPartsOfBoard.j2])
      | succ kj74 =>
       have H := HA.out
       clear HA
       simp only [laws_FnExactPartsOfBoard.j2] at H
       by_cases c89 : x95_74 = true
       ·subst c89
        have H1 : (some false) = some r := by rw [if_pos rfl] at H; exact H
        clear H
        have H := H1
        clear H1
        obtain rfl := Option.some.inj H
        go_wp2
        go_ret
        exact ⟨zk12, zk1⟩
       replace c89 := Bool.eq_false_iff.mpr c89
       subst c89
       have H1 : ((laws_heldIntSS.f kj74 t360 1).bind fun t374 => (if t374 < 0 then (some false) else (if t374 = t359 then (some true) else (some false)))) = some r := by rw [if_neg (show ¬ (false = true) by decide)] at H; exact H
       clear H
       have H := H1
       clear H1
       replace H := Option.bind_eq_some_iff.mp H
       obtain ⟨t374, A900, H⟩ := H
       replace H : (if t374 < 0 then (some false) else (if t374 = t359 then (some true) else (some false))) = some r := H
       have A90 := Aside0.mk A900
       clear A900
       by_cases c91 : t374 < 0
       ·rw [if_pos c91] at H
        have c91b0 : decide (t374 < 0) = true := decide_eq_true c91
        clear c91
        obtain rfl := Option.some.inj H
        go_wp2_with (first | ((with_reducible refine gate_callee (f := 16) rfl ?_); refine goesL_ (some 98) rfl rfl Try.func16 (by kernel_rfl) rfl #[.slice Ao76 t360.length co76, .int .i64 1] rfl zk4 ?_; (with_reducible refine (laws_heldIntSS.calls kj74 _ _ t360 1 t374 _ ?side1 ?side2 A90.out).mono ?_); (case side1 => exact zk9); (case side2 => exact (Kd.S_reads' HO_9.out).2.1); rintro e w' ⟨rfl, ⟨nd, rfl⟩⟩; refine ⟨_, rfl, ?_⟩))
        go_ret
        exact ⟨zk12, zk1⟩
       rw [if_neg c91] at H
       have c91b0 : decide (t374 < 0) = false := decide_eq_false c91
       clear c91
       by_cases c92 : t374 = t359
       rotate_left
       ·rw [if_neg c92] at H
        have c92b0 : (t374 == t359) = false := beq_eq_false_iff_ne.mpr c92
        have c92b1 : (t374 != t359) = true := bne_iff_ne.mpr c92
        obtain rfl := Option.some.inj H
        go_wp2_with (first | ((with_reducible refine gate_callee (f := 16) rfl ?_); refine goesL_ (some 98) rfl rfl Try.func16 (by kernel_rfl) rfl #[.slice Ao76 t360.length co76, .int .i64 1] rfl zk4 ?_; (with_reducible refine (laws_heldIntSS.calls kj74 _ _ t360 1 t374 _ ?side1 ?side2 A90.out).mono ?_); (case side1 => exact zk9); (case side2 => exact (Kd.S_reads' HO_9.out).2.1); rintro e w' ⟨rfl, ⟨nd, rfl⟩⟩; refine ⟨_, rfl, ?_⟩))
        go_ret
        exact ⟨zk12, zk1⟩
       rw [if_pos c92] at H
       have c92b0 : (t374 == t359) = true := beq_iff_eq.mpr c92
       have c92b1 : (t374 != t359) = false := bne_eq_false_iff_eq.mpr c92
       clear c92
       obtain rfl := Option.some.inj H
       go_wp2_with (first | ((with_reducible refine gate_callee (f := 16) rfl ?_); refine goesL_ (some 98) rfl rfl Try.func16 (by kernel_rfl) rfl #[.slice Ao76 t360.length co76, .int .i64 1] rfl zk4 ?_; (with_reducible refine (laws_heldIntSS.calls kj74 _ _ t360 1 t374 _ ?side1 ?side2 A90.out).mono ?_); (case side1 => exact zk9); (case side2 => exact (Kd.S_reads' HO_9.out).2.1); rintro e w' ⟨rfl, ⟨nd, rfl⟩⟩; refine ⟨_, rfl, ?_⟩))
       go_ret
       exact ⟨zk12, zk1⟩

end Go.Proofs.Ytfjomkjngolboaa.Q

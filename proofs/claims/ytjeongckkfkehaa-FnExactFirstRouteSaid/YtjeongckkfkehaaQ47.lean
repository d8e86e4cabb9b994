/- Written by a program of this session: functions of the translation as plain Lean functions, each with a proof that the call does what the plain function says; the conditions stand in each theorem. -/
import Derived.Test.YtjeongckkfkehaaQ0
import Derived.Test.YtjeongckkfkehaaQ1
import Derived.Test.YtjeongckkfkehaaQ2
import Derived.Test.YtjeongckkfkehaaQ5
import Derived.Test.YtjeongckkfkehaaQ11
import Derived.Test.YtjeongckkfkehaaQ45
import Derived.Test.YtjeongckkfkehaaQ46
namespace Go.Proofs.Ytjeongckkfkehaa.Q
open Go.RowKit Go.Proofs.YtjeongckkfkehaaW.PrintWords Go.Proofs.YtjeongckkfkehaaW.PrintLast Go.Proofs.YtjeongckkfkehaaW.PrintMore
attribute [local go_sem] max2_int min2_int max_two min_two max_three min_three max_four min_four   -- for this text's walks alone
set_option linter.unusedVariables false
set_option linter.unusedSimpArgs false

theorem zav1 {p : Prop} (h : p := by repeat (first | (with_reducible first | exact HB.out | apply below_alloc | apply pw_below_drewN | apply below_drew1 | refine below_set ?_ GE1358.out | refine below_set ?_ GE1359.out | refine below_set ?_ GE1377.out) | exact HB.out)) : p := h
theorem zav2 {p : Prop} (h : p := by (with_reducible repeat (first | refine blk_drewN ?_ _ | refine blk_drew ?_ | refine blk_alloc ?_ _)); exact BK1358.out) : p := h
theorem zav3 {p : Prop} (h : p := by (try simp only [List.map_toArray, List.map_cons, List.map_nil]); first | done | rfl | (simp only [List.length_drop, List.length_take]; rfl)) : p := h
theorem zav4 {p : Prop} (h : p := by (with_reducible repeat (first | refine blk_drewN ?_ _ | refine blk_drew ?_ | refine blk_alloc ?_ _)); exact BK1359.out) : p := h
theorem zav6 {p : Prop} (h : p := by repeat (first | (with_reducible first | exact HB.out | apply below_alloc | apply pw_below_drewN | apply below_drew1 | refine below_set ?_ GE1358.out | refine below_set ?_ GE1359.out) | exact HB.out)) : p := h
theorem zav7 {p : Prop} (h : p := by (with_reducible repeat (first | refine blk_drewN ?_ _ | refine blk_drew ?_ | refine blk_alloc ?_ _)); exact BK1377.out) : p := h
theorem zav8 {p : Prop} (h : p := by (with_reducible repeat (first | apply Kd.R_alloc | apply Kd.R_drewN | apply Kd.R_drew)); exact HO_1378002.out) : p := h
theorem zav9 {p : Prop} (h : p := by repeat (first | exact (Kd.R_reads' HO_13.out).2.2 | (with_reducible refine Kd.C_alloc ?_ _) | (with_reducible refine Kd.C_drewN ?_ _) | (with_reducible refine Kd.C_drew ?_))) : p := h
theorem zav10 {p : Prop} (h : p := by (with_reducible repeat (first | apply Kd.R_alloc | apply Kd.R_drewN | apply Kd.R_drew)); exact HO_13.out) : p := h
theorem zav11 {p : Prop} (h : p := by (with_reducible repeat (first | apply Kd.R_alloc | apply Kd.R_drewN | apply Kd.R_drew)); exact HO_10.out) : p := h
theorem zav12 {p : Prop} (h : p := by repeat (first | exact (Kd.C_below HR0_2.out HB.out) | (with_reducible refine Kd.C_alloc ?_ _) | (with_reducible refine Kd.C_drewN ?_ _) | (with_reducible refine Kd.C_drew ?_))) : p := h
theorem zav13 {p : Prop} (h : p := by first | rfl | (simp [errW_none, errW_some] <;> rfl) | (simp [*, errW_none, errW_some] <;> rfl)) : p := h
theorem zav14 {p : Prop} (h : p := by (with_reducible repeat (first | apply Kd.R_alloc | apply Kd.R_drewN | apply Kd.R_drew)); exact HO1365.out) : p := h
theorem zav15 {p : Prop} (h : p := by repeat (first | (with_reducible first | exact HB.out | apply below_alloc | apply pw_below_drewN | apply below_drew1 | refine below_set ?_ GE1358.out) | exact HB.out)) : p := h
theorem zav16 {p : Prop} (h : p := by repeat (first | (with_reducible first | exact HB.out | apply below_alloc | apply pw_below_drewN | apply below_drew1) | exact HB.out)) : p := h
theorem zav17 {p : Prop} (h : p := by (with_reducible repeat (first | apply Kd.R_alloc | apply Kd.R_drewN | apply Kd.R_drew)); exact HO1370.out) : p := h
theorem zav18 {p : Prop} (h : p := by repeat (first | exact (Kd.R_reads' HO_10.out).2.2 | (with_reducible refine Kd.C_alloc ?_ _) | (with_reducible refine Kd.C_drewN ?_ _) | (with_reducible refine Kd.C_drew ?_))) : p := h
theorem zav19 {p : Prop} (h : p := by (try simp only [List.map_toArray, List.map_cons, List.map_nil]); first | done | (rw [show t1395.length = t1380.length from (Kd.R_reads' HO_13.out).1.symm] <;> rfl) | rfl | (simp only [List.length_drop, List.length_take]; rfl)) : p := h
theorem zav20 {p : Prop} (h : p := by (with_reducible repeat (first | apply Kd.R_alloc | apply Kd.R_drewN | apply Kd.R_drew)); exact HO1376.out) : p := h
theorem zav21 {p : Prop} (h : p := by (with_reducible repeat (first | apply Kd.R_alloc | apply Kd.R_drewN | apply Kd.R_drew)); exact Kd.R_mono HO_1378002.out (fun _ hk => ⟨hk.1.1, hk.1.2⟩)) : p := h
theorem zav22 {p : Prop} (h : p := by (with_reducible repeat (first | apply Kd.R_alloc | apply Kd.R_drewN | apply Kd.R_drew)); exact Kd.R_mono HO_13.out (fun _ hk => ⟨hk.1, hk.2.1⟩)) : p := h
theorem zav23 {p : Prop} (h : p := by (with_reducible repeat (first | apply Kd.R_alloc | apply Kd.R_drewN | apply Kd.R_drew)); exact Kd.R_mono HO_10.out (fun _ hk => ⟨hk.1, hk.2.1⟩)) : p := h
theorem zav24 {p : Prop} (h : p := by first | rfl | (simp; done) | (simp [*]; done)) : p := h
theorem zav25 {p : Prop} (h : p := by (with_reducible repeat (first | apply Kd.R_alloc | apply Kd.R_drewN | apply Kd.R_drew)); exact HO1401.out) : p := h
theorem zav26 {p : Prop} (h : p := by rw [show t1395.length = t1380.length from (Kd.R_reads' HO_13.out).1.symm]; exact (Kd.R_reads' HO_13.out).2.1) : p := h
theorem zav27 {p : Prop} (h : p := by (try simp only [hl1378002_50]); (with_reducible repeat (first | apply Kd.R_alloc | apply Kd.R_drewN | apply Kd.R_drew)); exact Kd.R_mono HO_1378002.out (fun _ hk => hk.1.1.2)) : p := h
theorem zav28 {p : Prop} (h : p := by (try simp only [hl1378002_50]); (with_reducible repeat (first | apply Kd.R_alloc | apply Kd.R_drewN | apply Kd.R_drew)); exact Kd.R_mono HO_13.out (fun _ hk => hk.1.1.2)) : p := h
theorem zav29 {p : Prop} (h : p := by repeat (first | exact (Kd.R_reads' HO_1378002.out).2.2 | (with_reducible refine Kd.C_alloc ?_ _) | (with_reducible refine Kd.C_drewN ?_ _) | (with_reducible refine Kd.C_drew ?_))) : p := h
theorem zav30 {p : Prop} (h : p := by repeat (first | exact (Kd.R_reads' HO1406.out).2.2 | (with_reducible refine Kd.C_alloc ?_ _) | (with_reducible refine Kd.C_drewN ?_ _) | (with_reducible refine Kd.C_drew ?_))) : p := h
theorem zav31 {p : Prop} (h : p := by repeat (first | exact (Kd.R_reads' HO1389.out).2.2 | (with_reducible refine Kd.C_alloc ?_ _) | (with_reducible refine Kd.C_drewN ?_ _) | (with_reducible refine Kd.C_drew ?_))) : p := h
theorem zav32 {p : Prop} (h : p := by repeat (first | exact (Kd.R_reads' HO1382.out).2.2 | (with_reducible refine Kd.C_alloc ?_ _) | (with_reducible refine Kd.C_drewN ?_ _) | (with_reducible refine Kd.C_drew ?_))) : p := h
theorem zav33 {p : Prop} (h : p := by repeat (first | exact (Kd.R_reads' HO1370.out).2.2 | (with_reducible refine Kd.C_alloc ?_ _) | (with_reducible refine Kd.C_drewN ?_ _) | (with_reducible refine Kd.C_drew ?_))) : p := h
theorem zav34 {p : Prop} (h : p := by (try simp only [hl1378002_50]); (with_reducible repeat (first | refine blk_drewN ?_ _ | refine blk_drew ?_ | refine blk_alloc ?_ _)); exact BK1377.out) : p := h
theorem zav35 {p : Prop} (h : p := by (try simp only [hl1378002_50]); (with_reducible repeat (first | refine blk_drewN ?_ _ | refine blk_drew ?_ | refine blk_alloc ?_ _)); exact BK1359.out) : p := h
theorem zav36 {p : Prop} (h : p := by (try simp only [hl1378002_50]); (with_reducible repeat (first | refine blk_drewN ?_ _ | refine blk_drew ?_ | refine blk_alloc ?_ _)); exact BK1358.out) : p := h
theorem zav37 {p : Prop} (h : p := by (with_reducible repeat (first | apply Kd.R_alloc | apply Kd.R_drewN | apply Kd.R_drew)); exact Kd.R_mono HO1382.out (fun _ hk => ⟨hk.1.2, hk.2⟩)) : p := h
theorem zav38 {p : Prop} (h : p := by (with_reducible repeat (first | apply Kd.R_alloc | apply Kd.R_drewN | apply Kd.R_drew)); exact Kd.R_mono HO1376.out (fun _ hk => ⟨hk.1.2, hk.2⟩)) : p := h
theorem zav39 {p : Prop} (h : p := by (with_reducible repeat (first | apply Kd.R_alloc | apply Kd.R_drewN | apply Kd.R_drew)); exact Kd.R_mono HO1370.out (fun _ hk => ⟨hk.2, hk.1.2⟩)) : p := h
theorem zav40 {p : Prop} (h : p := by rw [hg]; exact Nat.ne_of_lt (blk_lt (g := gb1358) (o := .cells #[.int .i64 a0_0, .int .i64 a0_1, .slice A0_2 l0_2.length c0_2] 24 (0, 0)) zav2)) : p := h
theorem zav41 {p : Prop} (h : p := by rw [hg]; exact Nat.ne_of_gt (blk_lt (g := gb1358) (o := .cells #[.int .i64 a0_0, .int .i64 a0_1, .slice A0_2 l0_2.length c0_2] 24 (0, 0)) zav2)) : p := h
/-! ### laws_FnExactFirstRoute: function 13 -/
mutual
def laws_FnExactFirstRoute.j0 : Nat → Int → Int → List Int → Bool → List Int → Bool → Bool → Int → Int → List Int → Int → Int → Int → Int → List Int → Option (Bool)
 | 0, _, _, _, _, _, _, _, _, _, _, _, _, _, _, _ => none
 | k + 1, x2, x3, x10, x11, x13, x14, x54, x1359000, x1359001, x1359002, x1360000, x1360001, x1378000, x1378001, x1378002 => if x54 = true then (some false) else ((laws_toBoard.f k x1359000 x1359001 x1359002).bind fun bt1385 => ((laws_eqBoard.f k x1378000 x1378001 x1378002 bt1385.1 bt1385.2.1 bt1385.2.2).bind fun t1390 => (if t1390 = true then ((laws_markBoard.f k x1378000 x1378001 x1378002 1).bind fun bt1391 => (if bt1391.1 < 0 then (laws_FnExactFirstRoute.j1 k x2 x3 x10 x11 x13 true x1359000 x1359001 x1359002 x1360000 x1360001) else ((laws_eqIntS.f k x13 x10).bind fun t1393 => (if t1393 = true then (laws_FnExactFirstRoute.j1 k x2 x3 x10 x11 x13 (x14 != x11) x1359000 x1359001 x1359002 x1360000 x1360001) else (laws_FnExactFirstRoute.j1 k x2 x3 x10 x11 x13 true x1359000 x1359001 x1359002 x1360000 x1360001))))) else (some false))))
def laws_FnExactFirstRoute.j1 : Nat → Int → Int → List Int → Bool → List Int → Bool → Int → Int → List Int → Int → Int → Option (Bool)
 | 0, _, _, _, _, _, _, _, _, _, _, _ => none
 | k + 1, x2, x3, x10, x11, x13, x75, x1359000, x1359001, x1359002, x1360000, x1360001 => if x75 = true then (some false) else ((laws_markIntS.f k x13 1).bind fun bt1394 => ((laws_heldIntS.f k bt1394.2 1).bind fun t1396 => (if t1396 < 0 then (some false) else (if t1396 = bt1394.1 then ((laws_toBoard.f k x1359000 x1359001 x1359002).bind fun bt1397 => ((laws_toLeaper.f x1360000 x1360001).bind fun bt1402 => ((impl_FirstRoute.f k bt1397.1 bt1397.2.1 bt1397.2.2 bt1402.1 bt1402.2 x2 x3).bind fun bt1404 => ((laws_eqIntS.f k bt1404.1 x10).bind fun t1408 => (if t1408 = true then (laws_FnExactFirstRoute.j2 k bt1394.2 bt1394.1 (bt1404.2 != x11)) else (laws_FnExactFirstRoute.j2 k bt1394.2 bt1394.1 true)))))) else (some false)))))
def laws_FnExactFirstRoute.j2 : Nat → List Int → Int → Bool → Option (Bool)
 | 0, _, _, _ => none
 | k + 1, x13, x16, x105 => if x105 = true then (some false) else ((laws_heldIntS.f k x13 1).bind fun t1409 => (if t1409 < 0 then (some false) else (if t1409 = x16 then (some true) else (some false))))
end
def laws_FnExactFirstRoute.f (k : Nat) (a0_0 : Int) (a0_1 : Int) (l0_2 : List Int) (a1_0 : Int) (a1_1 : Int) (a2 : Int) (a3 : Int) : Option (Bool) := (laws_szBoard.f a0_0 a0_1 l0_2 1048576).bind fun t1360 => (if t1360 < 0 then (some true) else ((laws_toBoard.f k a0_0 a0_1 l0_2).bind fun bt1361 => ((laws_toLeaper.f a1_0 a1_1).bind fun bt1366 => ((spec_FirstRoute.f k bt1361.1 bt1361.2.1 bt1361.2.2 bt1366.1 bt1366.2 a2 a3).bind fun bt1368 => ((laws_toBoard.f k a0_0 a0_1 l0_2).bind fun bt1372 => ((laws_toLeaper.f a1_0 a1_1).bind fun bt1378 => ((impl_FirstRoute.f k bt1372.1 bt1372.2.1 bt1372.2.2 bt1378.1 bt1378.2 a2 a3).bind fun bt1380 => ((laws_eqIntS.f k bt1380.1 bt1368.1).bind fun t1384 => (if t1384 = true then (laws_FnExactFirstRoute.j0 k a2 a3 bt1368.1 bt1368.2 bt1380.1 bt1380.2 (bt1380.2 != bt1368.2) a0_0 a0_1 l0_2 a1_0 a1_1 bt1372.1 bt1372.2.1 bt1372.2.2) else (laws_FnExactFirstRoute.j0 k a2 a3 bt1368.1 bt1368.2 bt1380.1 bt1380.2 true a0_0 a0_1 l0_2 a1_0 a1_1 bt1372.1 bt1372.2.1 bt1372.2.2))))))))))
def laws_FnExactFirstRoute.T5 : Bool × List (List Nat × List Nat) := (true, [([], []), ([0], [0]), ([], []), ([2, 1], [2]), ([], []), ([], []), ([1, 3, 4, 5, 3], [1, 3, 4, 5]), ([6], [6]), ([7], [7]), ([7], [7]), ([8, 6, 0, 1, 2, 3, 4, 5, 6, 7, 8], [8]), ([9, 10, 0, 1, 2, 3, 4, 5, 6, 7, 8, 9, 10], [9])])
def laws_FnExactFirstRoute.B5 : List Nat := [0, 1, 0, 7, 0, 0, 63, 127, 255, 255, 511, 2047]
theorem laws_FnExactFirstRoute.tab5 : rtab .any (opsOf Try.f13 5) = laws_FnExactFirstRoute.T5 := by kernel_rfl
theorem laws_FnExactFirstRoute.bits5 : waitsOk laws_FnExactFirstRoute.T5.2 laws_FnExactFirstRoute.B5 = true := by kernel_rfl
def laws_FnExactFirstRoute.T7 : Bool × List (List Nat × List Nat) := (true, [([], []), ([], []), ([1], [1]), ([], []), ([], []), ([0, 2, 3, 4, 2], [0, 2, 3, 4]), ([5], [5]), ([6], [6]), ([6], [6]), ([7, 5, 0, 1, 2, 3, 4, 5, 6, 7], [7]), ([8, 9, 0, 1, 2, 3, 4, 5, 6, 7, 8, 9], [8])])
def laws_FnExactFirstRoute.B7 : List Nat := [0, 0, 2, 0, 0, 31, 63, 127, 127, 255, 1023]
theorem laws_FnExactFirstRoute.tab7 : rtab .any (opsOf Try.f13 7) = laws_FnExactFirstRoute.T7 := by kernel_rfl
theorem laws_FnExactFirstRoute.bits7 : waitsOk laws_FnExactFirstRoute.T7.2 laws_FnExactFirstRoute.B7 = true := by kernel_rfl
def laws_FnExactFirstRoute.T24 : Bool × List (List Nat × List Nat) := (true, [([], []), ([0], [0]), ([], []), ([2, 1], [2]), ([], []), ([], []), ([1, 3, 4, 5, 3], [1, 3, 4, 5]), ([6], [6]), ([7], [7]), ([7], [7]), ([8, 6, 0, 1, 2, 3, 4, 5, 6, 7, 8], [8]), ([9, 10, 0, 1, 2, 3, 4, 5, 6, 7, 8, 9, 10], [9])])
def laws_FnExactFirstRoute.B24 : List Nat := [0, 1, 0, 7, 0, 0, 63, 127, 255, 255, 511, 2047]
theorem laws_FnExactFirstRoute.tab24 : rtab .any (opsOf Try.f13 24) = laws_FnExactFirstRoute.T24 := by kernel_rfl
theorem laws_FnExactFirstRoute.bits24 : waitsOk laws_FnExactFirstRoute.T24.2 laws_FnExactFirstRoute.B24 = true := by kernel_rfl
set_option maxHeartbeats 8000000 in
set_option maxRecDepth 100000 in
theorem laws_FnExactFirstRoute.calls (k : Nat) (a0_0 : Int) (a0_1 : Int) (A0_2 : Option Addr) (c0_2 : Nat) (l0_2 : List Int) (a1_0 : Int) (a1_1 : Int) (a2 : Int) (a3 : Int) (r : Bool) (w : World) (hr0_2 : Kd.C (Kd.int .i64) w A0_2 l0_2.length l0_2) (hc0_2 : l0_2.length ≤ c0_2) (h : laws_FnExactFirstRoute.f k a0_0 a0_1 l0_2 a1_0 a1_1 a2 a3 = some r) :
  Calls Try.prog 13 #[.agg #[.int .i64 a0_0, .int .i64 a0_1, .slice A0_2 l0_2.length c0_2], .agg #[.int .i64 a1_0, .int .i64 a1_1], .int .i64 a2, .int .i64 a3] w fun e w' => e = .returned (.bool r) ∧ Below w.heap.size w w' := by
 have hu24 := Try.underlying24
 have hu26 := Try.underlying26
 have hu30 := Try.underlying30
 have HR0_2 := Aside0.mk hr0_2
 have HC0_2 := Aside0.mk hc0_2
 clear hr0_2 hc0_2
 have HB := Aside0.mk (Below.refl w.heap.size w)
 have H : ((laws_szBoard.f a0_0 a0_1 l0_2 1048576).bind fun t1360 => (if t1360 < 0 then (some true) else ((laws_toBoard.f k a0_0 a0_1 l0_2).bind fun bt1361 => ((laws_toLeaper.f a1_0 a1_1).bind fun bt1366 => ((spec_FirstRoute.f k bt1361.1 bt1361.2.1 bt1361.2.2 bt1366.1 bt1366.2 a2 a3).bind fun bt1368 => ((laws_toBoard.f k a0_0 a0_1 l0_2).bind fun bt1372 => ((laws_toLeaper.f a1_0 a1_1).bind fun bt1378 => ((impl_FirstRoute.f k bt1372.1 bt1372.2.1 bt1372.2.2 bt1378.1 bt1378.2 a2 a3).bind fun bt1380 => ((laws_eqIntS.f k bt1380.1 bt1368.1).bind fun t1384 => (if t1384 = true then (laws_FnExactFirstRoute.j0 k a2 a3 bt1368.1 bt1368.2 bt1380.1 bt1380.2 (bt1380.2 != bt1368.2) a0_0 a0_1 l0_2 a1_0 a1_1 bt1372.1 bt1372.2.1 bt1372.2.2) else (laws_FnExactFirstRoute.j0 k a2 a3 bt1368.1 bt1368.2 bt1380.1 bt1380.2 true a0_0 a0_1 l0_2 a1_0 a1_1 bt1372.1 bt1372.2.1 bt1372.2.2))))))))))) = some r := h
 clear h
 replace H := Option.bind_eq_some_iff.mp H
 obtain ⟨t1360, A50, H⟩ := H
 replace H : (if t1360 < 0 then (some true) else ((laws_toBoard.f k a0_0 a0_1 l0_2).bind fun bt1361 => ((laws_toLeaper.f a1_0 a1_1).bind fun bt1366 => ((spec_FirstRoute.f k bt1361.1 bt1361.2.1 bt1361.2.2 bt1366.1 bt1366.2 a2 a3).bind fun bt1368 => ((laws_toBoard.f k a0_0 a0_1 l0_2).bind fun bt1372 => ((laws_toLeaper.f a1_0 a1_1).bind fun bt1378 => ((impl_FirstRoute.f k bt1372.1 bt1372.2.1 bt1372.2.2 bt1378.1 bt1378.2 a2 a3).bind fun bt1380 => ((laws_eqIntS.f k bt1380.1 bt1368.1).bind fun t1384 => (if t1384 = true then (laws_FnExactFirstRoute.j0 k a2 a3 bt1368.1 bt1368.2 bt1380.1 bt1380.2 (bt1380.2 != bt1368.2) a0_0 a0_1 l0_2 a1_0 a1_1 bt1372.1 bt1372.2.1 bt1372.2.2) else (laws_FnExactFirstRoute.j0 k a2 a3 bt1368.1 bt1368.2 bt1380.1 bt1380.2 true a0_0 a0_1 l0_2 a1_0 a1_1 bt1372.1 bt1372.2.1 bt1372.2.2)))))))))) = some r := H
 have A5 := Aside0.mk A50
 clear A50
 by_cases c6 : t1360 < 0
 ·rw [if_pos c6] at H
  have c6b0 : decide (t1360 < 0) = true := decide_eq_true c6
  clear c6
  obtain rfl := Option.some.inj H
  go_enter Try.func13, Try.ntmps13
  go_wp2_with (first | ((with_reducible refine gate_dst (N := 4) rfl ?_); refine box_event ?hg (N := 4) ?hd (cs := #[.int .i64 a0_0, .int .i64 a0_1, .slice A0_2 l0_2.length c0_2]) (t := 24) ?hr ?_; (case hd => rfl); (case hg => rfl); (case hr => first | (go_simp; done) | (go_simp; rfl)); intro gb1358 hg w7 hbox hb; have n0_ := Aside0.mk (below_step zav16 hb); have n1_ := Aside0.mk (hbox); have n2_ := Aside0.mk ((by rw [hg]; exact (below_size zav16) : w.heap.size ≤ gb1358)); have n3_ := Aside0.mk ((by rw [hg]; exact (below_size zav16) : w.heap.size ≤ gb1358)); clear HB; have HB := n0_; have BK1358 := n1_; have GW1358 := n2_; have GE1358 := n3_; clear n0_ n1_ n2_ n3_; clear hb hbox hg) | ((with_reducible refine gate_dst (N := 5) rfl ?_); refine box_event ?hg (N := 5) ?hd (cs := #[.int .i64 a1_0, .int .i64 a1_1]) (t := 26) ?hr ?_; (case hd => rfl); (case hg => rfl); (case hr => first | (go_simp; done) | (go_simp; rfl)); intro gb1359 hg w8 hbox hb; have n0_ := Aside0.mk (blk_below (g := gb1358) (o := .cells #[.int .i64 a0_0, .int .i64 a0_1, .slice A0_2 l0_2.length c0_2] 24 (0, 0)) zav2 hb); have n1_ := Aside0.mk (below_step zav15 hb); have n2_ := Aside0.mk (hbox); have n3_ := Aside0.mk ((by rw [hg]; exact (below_size zav15) : w.heap.size ≤ gb1359)); have n4_ := Aside0.mk ((by rw [hg]; exact (below_size zav15) : w.heap.size ≤ gb1359)); have n5_ := Aside0.mk ((zav40 : gb1358 ≠ gb1359)); have n6_ := Aside0.mk ((zav41 : gb1359 ≠ gb1358)); clear BK1358; clear HB; have BK1358 := n0_; have HB := n1_; have BK1359 := n2_; have GW1359 := n3_; have GE1359 := n4_; have NB1358_1359 := n5_; have NB1359_1358 := n6_; clear n0_ n1_ n2_ n3_ n4_ n5_ n6_; clear hb hbox hg; have hnb9 := NB1358_1359.out; have hnc9 := NB1359_1358.out; have hcz10_0 : w8.cell? ⟨gb1358, 0, none⟩ = some (.int .i64 a0_0) := (blk_cell BK1358.out 0).trans rfl; have hcz10_1 : w8.cell? ⟨gb1358, 1, none⟩ = some (.int .i64 a0_1) := (blk_cell BK1358.out 1).trans rfl; have hcz10_2 : w8.cell? ⟨gb1358, 2, none⟩ = some (.slice A0_2 l0_2.length c0_2) := (blk_cell BK1358.out 2).trans rfl; have hfz10_0 := blk_frozen BK1358.out 0; have hfz10_1 := blk_frozen BK1358.out 1; have hfz10_2 := blk_frozen BK1358.out 2) | ((with_reducible refine gate_callee (f := 15) rfl ?_); refine goesL_ (some 22) rfl rfl Try.func15 (by kernel_rfl) rfl #[.agg #[.int .i64 a0_0, .int .i64 a0_1, .slice A0_2 l0_2.length c0_2], .int .i64 1048576] rfl zav3 ?_; (with_reducible refine (laws_szBoard.calls a0_0 a0_1 _ _ l0_2 1048576 t1360 _ ?side1 ?side2 A5.out).mono ?_); (case side1 => exact zav12); (case side2 => exact HC0_2.out); rintro e w11 ⟨rfl, hb⟩; refine ⟨_, rfl, ?_⟩; have n0_ := Aside0.mk (blk_below (g := gb1358) (o := .cells #[.int .i64 a0_0, .int .i64 a0_1, .slice A0_2 l0_2.length c0_2] 24 (0, 0)) zav2 hb); have n1_ := Aside0.mk (blk_below (g := gb1359) (o := .cells #[.int .i64 a1_0, .int .i64 a1_1] 26 (0, 0)) zav4 hb); have n2_ := Aside0.mk (below_step zav6 hb); clear BK1358; clear BK1359; clear HB; have BK1358 := n0_; have BK1359 := n1_; have HB := n2_; clear n0_ n1_ n2_; (try clear hb); (try clear hb2); (try clear hk); (try clear hi); (try clear hna_); (try clear hnb_)))
  go_ret
  exact ⟨zav13, zav6⟩
 rw [if_neg c6] at H
 have c6b0 : decide (t1360 < 0) = false := decide_eq_false c6
 clear c6
 replace H := Option.bind_eq_some_iff.mp H
 obtain ⟨⟨t1361, t1362, t1363⟩, A120, H⟩ := H
 replace H : ((laws_toLeaper.f a1_0 a1_1).bind fun bt1366 => ((spec_FirstRoute.f k t1361 t1362 t1363 bt1366.1 bt1366.2 a2 a3).bind fun bt1368 => ((laws_toBoard.f k a0_0 a0_1 l0_2).bind fun bt1372 => ((laws_toLeaper.f a1_0 a1_1).bind fun bt1378 => ((impl_FirstRoute.f k bt1372.1 bt1372.2.1 bt1372.2.2 bt1378.1 bt1378.2 a2 a3).bind fun bt1380 => ((laws_eqIntS.f k bt1380.1 bt1368.1).bind fun t1384 => (if t1384 = true then (laws_FnExactFirstRoute.j0 k a2 a3 bt1368.1 bt1368.2 bt1380.1 bt1380.2 (bt1380.2 != bt1368.2) a0_0 a0_1 l0_2 a1_0 a1_1 bt1372.1 bt1372.2.1 bt1372.2.2) else (laws_FnExactFirstRoute.j0 k a2 a3 bt1368.1 bt1368.2 bt1380.1 bt1380.2 true a0_0 a0_1 l0_2 a1_0 a1_1 bt1372.1 bt1372.2.1 bt1372.2.2)))))))) = some r := H
 have A12 := Aside0.mk A120
 clear A120
 replace H := Option.bind_eq_some_iff.mp H
 obtain ⟨⟨t1366, t1367⟩, A130, H⟩ := H
 replace H : ((spec_FirstRoute.f k t1361 t1362 t1363 t1366 t1367 a2 a3).bind fun bt1368 => ((laws_toBoard.f k a0_0 a0_1 l0_2).bind fun bt1372 => ((laws_toLeaper.f a1_0 a1_1).bind fun bt1378 => ((impl_FirstRoute.f k bt1372.1 bt1372.2.1 bt1372.2.2 bt1378.1 bt1378.2 a2 a3).bind fun bt1380 => ((laws_eqIntS.f k bt1380.1 bt1368.1).bind fun t1384 => (if t1384 = true then (laws_FnExactFirstRoute.j0 k a2 a3 bt1368.1 bt1368.2 bt1380.1 bt1380.2 (bt1380.2 != bt1368.2) a0_0 a0_1 l0_2 a1_0 a1_1 bt1372.1 bt1372.2.1 bt1372.2.2) else (laws_FnExactFirstRoute.j0 k a2 a3 bt1368.1 bt1368.2 bt1380.1 bt1380.2 true a0_0 a0_1 l0_2 a1_0 a1_1 bt1372.1 bt1372.2.1 bt1372.2.2))))))) = some r := H
 have A13 := Aside0.mk A130
 clear A130
 replace H := Option.bind_eq_some_iff.mp H
 obtain ⟨⟨t1368, t1371⟩, A140, H⟩ := H
 replace H : ((laws_toBoard.f k a0_0 a0_1 l0_2).bind fun bt1372 => ((laws_toLeaper.f a1_0 a1_1).bind fun bt1378 => ((impl_FirstRoute.f k bt1372.1 bt1372.2.1 bt1372.2.2 bt1378.1 bt1378.2 a2 a3).bind fun bt1380 => ((laws_eqIntS.f k bt1380.1 t1368).bind fun t1384 => (if t1384 = true then (laws_FnExactFirstRoute.j0 k a2 a3 t1368 t1371 bt1380.1 bt1380.2 (bt1380.2 != t1371) a0_0 a0_1 l0_2 a1_0 a1_1 bt1372.1 bt1372.2.1 bt1372.2.2) else (laws_FnExactFirstRoute.j0 k a2 a3 t1368 t1371 bt1380.1 bt1380.2 true a0_0 a0_1 l0_2 a1_0 a1_1 bt1372.1 bt1372.2.1 bt1372.2.2)))))) = some r := H
 have A14 := Aside0.mk A140
 clear A140
 replace H := Option.bind_eq_some_iff.mp H
 obtain ⟨⟨t1372, t1373, t1374⟩, A150, H⟩ := H
 replace H : ((laws_toLeaper.f a1_0 a1_1).bind fun bt1378 => ((impl_FirstRoute.f k t1372 t1373 t1374 bt1378.1 bt1378.2 a2 a3).bind fun bt1380 => ((laws_eqIntS.f k bt1380.1 t1368).bind fun t1384 => (if t1384 = true then (laws_FnExactFirstRoute.j0 k a2 a3 t1368 t1371 bt1380.1 bt1380.2 (bt1380.2 != t1371) a0_0 a0_1 l0_2 a1_0 a1_1 t1372 t1373 t1374) else (laws_FnExactFirstRoute.j0 k a2 a3 t1368 t1371 bt1380.1 bt1380.2 true a0_0 a0_1 l0_2 a1_0 a1_1 t1372 t1373 t1374))))) = some r := H
 have A15 := Aside0.mk A150
 clear A150
 replace H := Option.bind_eq_some_iff.mp H
 obtain ⟨⟨t1378, t1379⟩, A160, H⟩ := H
 replace H : ((impl_FirstRoute.f k t1372 t1373 t1374 t1378 t1379 a2 a3).bind fun bt1380 => ((laws_eqIntS.f k bt1380.1 t1368).bind fun t1384 => (if t1384 = true then (laws_FnExactFirstRoute.j0 k a2 a3 t1368 t1371 bt1380.1 bt1380.2 (bt1380.2 != t1371) a0_0 a0_1 l0_2 a1_0 a1_1 t1372 t1373 t1374) else (laws_FnExactFirstRoute.j0 k a2 a3 t1368 t1371 bt1380.1 bt1380.2 true a0_0 a0_1 l0_2 a1_0 a1_1 t1372 t1373 t1374)))) = some r := H
 have A16 := Aside0.mk A160
 clear A160
 replace H := Option.bind_eq_some_iff.mp H
 obtain ⟨⟨t1380, t1383⟩, A170, H⟩ := H
 replace H : ((laws_eqIntS.f k t1380 t1368).bind fun t1384 => (if t1384 = true then (laws_FnExactFirstRoute.j0 k a2 a3 t1368 t1371 t1380 t1383 (t1383 != t1371) a0_0 a0_1 l0_2 a1_0 a1_1 t1372 t1373 t1374) else (laws_FnExactFirstRoute.j0 k a2 a3 t1368 t1371 t1380 t1383 true a0_0 a0_1 l0_2 a1_0 a1_1 t1372 t1373 t1374))) = some r := H
 have A17 := Aside0.mk A170
 clear A170
 have HC18 := Aside0.mk H
 clear H
 go_enter Try.func13, Try.ntmps13
 try go_wp2_with (first | ((with_reducible refine gate_dst (N := 4) rfl ?_); refine box_event ?hg (N := 4) ?hd (cs := #[.int .i64 a0_0, .int .i64 a0_1, .slice A0_2 l0_2.length c0_2]) (t := 24) ?hr ?_; (case hd => rfl); (case hg => rfl); (case hr => first | (go_simp; done) | (go_simp; rfl)); intro gb1358 hg w19 hbox hb; have n0_ := Aside0.mk (below_step zav16 hb); have n1_ := Aside0.mk (hbox); have n2_ := Aside0.mk ((by rw [hg]; exact (below_size zav16) : w.heap.size ≤ gb1358)); have n3_ := Aside0.mk ((by rw [hg]; exact (below_size zav16) : w.heap.size ≤ gb1358)); clear HB; have HB := n0_; have BK1358 := n1_; have GW1358 := n2_; have GE1358 := n3_; clear n0_ n1_ n2_ n3_; clear hb hbox hg) | ((with_reducible refine gate_dst (N := 5) rfl ?_); refine box_event ?hg (N := 5) ?hd (cs := #[.int .i64 a1_0, .int .i64 a1_1]) (t := 26) ?hr ?_; (case hd => rfl); (case hg => rfl); (case hr => first | (go_simp; done) | (go_simp; rfl)); intro gb1359 hg w20 hbox hb; have n0_ := Aside0.mk (blk_below (g := gb1358) (o := .cells #[.int .i64 a0_0, .int .i64 a0_1, .slice A0_2 l0_2.length c0_2] 24 (0, 0)) zav2 hb); have n1_ := Aside0.mk (below_step zav15 hb); have n2_ := Aside0.mk (hbox); have n3_ := Aside0.mk ((by rw [hg]; exact (below_size zav15) : w.heap.size ≤ gb1359)); have n4_ := Aside0.mk ((by rw [hg]; exact (below_size zav15) : w.heap.size ≤ gb1359)); have n5_ := Aside0.mk ((zav40 : gb1358 ≠ gb1359)); have n6_ := Aside0.mk ((zav41 : gb1359 ≠ gb1358)); clear BK1358; clear HB; have BK1358 := n0_; have HB := n1_; have BK1359 := n2_; have GW1359 := n3_; have GE1359 := n4_; have NB1358_1359 := n5_; have NB1359_1358 := n6_; clear n0_ n1_ n2_ n3_ n4_ n5_ n6_; clear hb hbox hg; have hnb21 := NB1358_1359.out; have hnc21 := NB1359_1358.out; have hcz22_0 : w20.cell? ⟨gb1358, 0, none⟩ = some (.int .i64 a0_0) := (blk_cell BK1358.out 0).trans rfl; have hcz22_1 : w20.cell? ⟨gb1358, 1, none⟩ = some (.int .i64 a0_1) := (blk_cell BK1358.out 1).trans rfl; have hcz22_2 : w20.cell? ⟨gb1358, 2, none⟩ = some (.slice A0_2 l0_2.length c0_2) := (blk_cell BK1358.out 2).trans rfl; have hfz22_0 := blk_frozen BK1358.out 0; have hfz22_1 := blk_frozen BK1358.out 1; have hfz22_2 := blk_frozen BK1358.out 2) | ((with_reducible refine gate_callee (f := 15) rfl ?_); refine goesL_ (some 22) rfl rfl Try.func15 (by kernel_rfl) rfl #[.agg #[.int .i64 a0_0, .int .i64 a0_1, .slice A0_2 l0_2.length c0_2], .int .i64 1048576] rfl zav3 ?_; (with_reducible refine (laws_szBoard.calls a0_0 a0_1 _ _ l0_2 1048576 t1360 _ ?side1 ?side2 A5.out).mono ?_); (case side1 => exact zav12); (case side2 => exact HC0_2.out); rintro e w23 ⟨rfl, hb⟩; refine ⟨_, rfl, ?_⟩; have n0_ := Aside0.mk (blk_below (g := gb1358) (o := .cells #[.int .i64 a0_0, .int .i64 a0_1, .slice A0_2 l0_2.length c0_2] 24 (0, 0)) zav2 hb); have n1_ := Aside0.mk (blk_below (g := gb1359) (o := .cells #[.int .i64 a1_0, .int .i64 a1_1] 26 (0, 0)) zav4 hb); have n2_ := Aside0.mk (below_step zav6 hb); clear BK1358; clear BK1359; clear HB; have BK1358 := n0_; have BK1359 := n1_; have HB := n2_; clear n0_ n1_ n2_; (try clear hb); (try clear hb2); (try clear hk); (try clear hi); (try clear hna_); (try clear hnb_)))
 have n0_ := Aside0.mk (blk_drew BK1358.out)
 have n1_ := Aside0.mk (blk_drew BK1359.out)
 have n2_ := Aside0.mk (below_drew1 HB.out)
 clear BK1358
 clear BK1359
 clear HB
 have BK1358 := n0_
 have BK1359 := n1_
 have HB := n2_
 clear n0_ n1_ n2_
 refine start_ (n := 12) (S := fun w' => w'.cell? ⟨gb1358, 0, none⟩ = some (.int .i64 a0_0) ∧ w'.cell? ⟨gb1358, 1, none⟩ = some (.int .i64 a0_1) ∧ w'.cell? ⟨gb1358, 2, none⟩ = some (.slice A0_2 l0_2.length c0_2) ∧ w'.cell? ⟨gb1359, 0, none⟩ = some (.int .i64 a1_0) ∧ w'.cell? ⟨gb1359, 1, none⟩ = some (.int .i64 a1_1)) (ds := []) #[false, false, false, false, false, false, false, false, false, false, false, false] (by kernel_rfl) rfl rfl ⟨(blk_cell BK1358.out 0).trans rfl, (blk_cell BK1358.out 1).trans rfl, (blk_cell BK1358.out 2).trans rfl, (blk_cell BK1359.out 0).trans rfl, (blk_cell BK1359.out 1).trans rfl⟩ (fun hHeld => ?_); refine with_tabW laws_FnExactFirstRoute.tab5 laws_FnExactFirstRoute.bits5 (fun HT_ HW_ => ?_)
 generalize w23.drew = w24 at BK1358 BK1359 HB hHeld ⊢
 refine pure_ (i := 4) (N := some 30) (v := ?_) (a' := ?_) #[false, false, false, false, true, false, false, false, false, false, false, false] rfl rfl (any_of HT_.out (by kernel_rfl)) (fun _ _ _ h => h) (Or.inl ⟨by rfl, ?_⟩) ?_ ?_
 rotate_left
 ·intro w'
  go_simp
  with_reducible rfl
 rotate_left
 ·simp only [Act.put, List.setIfInBounds_toArray, List.set_cons_zero, List.set_cons_succ, i64_w, i32_w]
  rfl
 refine pure_ (i := 5) (N := some 31) (v := ?_) (a' := ?_) #[false, false, false, false, true, true, false, false, false, false, false, false] rfl rfl (any_of HT_.out (by kernel_rfl)) (fun _ _ _ h => h) (Or.inl ⟨by rfl, ?_⟩) ?_ ?_
 rotate_left
 ·intro w'
  go_simp
  with_reducible rfl
 rotate_left
 ·simp only [Act.put, List.setIfInBounds_toArray, List.set_cons_zero, List.set_cons_succ, i64_w, i32_w]
  rfl
 refine take_ (i := 0) (N := some 26) (v := ?_) (a' := ?_) #[true, false, false, false, true, true, false, false, false, false, false, false] rfl rfl (take_ofW HT_.out HW_.out (by kernel_rfl)) (fun _ _ _ h => h) (Or.inl ⟨by rfl, ?_⟩) hHeld ?_ ?_
 rotate_left
 ·rintro w' ⟨s0, s1, s2, s3, s4⟩
  go_simp
  with_reducible rfl
 rotate_left
 ·simp only [Act.put, List.setIfInBounds_toArray, List.set_cons_zero, List.set_cons_succ, i64_w, i32_w]
  rfl
 refine take_ (i := 2) (N := some 28) (v := ?_) (a' := ?_) #[true, false, true, false, true, true, false, false, false, false, false, false] rfl rfl (take_ofW HT_.out HW_.out (by kernel_rfl)) (fun _ _ _ h => h) (Or.inl ⟨by rfl, ?_⟩) hHeld ?_ ?_
 rotate_left
 ·rintro w' ⟨s0, s1, s2, s3, s4⟩
  go_simp
  with_reducible rfl
 rotate_left
 ·simp only [Act.put, List.setIfInBounds_toArray, List.set_cons_zero, List.set_cons_succ, i64_w, i32_w]
  rfl
 refine one_ (i := 1) (N := some 27) #[true, true, true, false, true, true, false, false, false, false, false, false] rfl rfl (one_of HT_.out (by kernel_rfl)) (by decide) (fun K hK => ?_)
 refine goes_ Try.func17 (by kernel_rfl) rfl #[.agg #[.int .i64 a0_0, .int .i64 a0_1, .slice A0_2 l0_2.length c0_2]] (by rfl) rfl rfl zav3 ?_
 with_reducible refine (laws_toBoard.calls k a0_0 a0_1 _ _ l0_2 t1361 t1362 t1363 _ ?side1 ?side2 A12.out).mono ?_
 (case side1 => exact zav12)
 (case side2 => exact HC0_2.out)
 rintro e w25 ⟨v1364, rfl, ho0, hb⟩
 refine ⟨_, rfl, ?_⟩
 have n0_ := Aside0.mk (Kd.R_lower ho0 (below_size zav6))
 have n1_ := Aside0.mk (blk_below (g := gb1358) (o := .cells #[.int .i64 a0_0, .int .i64 a0_1, .slice A0_2 l0_2.length c0_2] 24 (0, 0)) zav2 hb)
 have n2_ := Aside0.mk (blk_below (g := gb1359) (o := .cells #[.int .i64 a1_0, .int .i64 a1_1] 26 (0, 0)) zav4 hb)
 have n3_ := Aside0.mk (below_step zav6 hb)
 clear BK1358
 clear BK1359
 clear HB
 have HO1365 := n0_
 have BK1358 := n1_
 have BK1359 := n2_
 have HB := n3_
 clear n0_ n1_ n2_ n3_
 (try clear hb)
 (try clear hb2)
 (try clear hk)
 (try clear hi)
 (try clear ho0)
 (try clear hna_)
 (try clear hnb_)
 refine hK.out _ _ ⟨(blk_cell BK1358.out 0).trans rfl, (blk_cell BK1358.out 1).trans rfl, (blk_cell BK1358.out 2).trans rfl, (blk_cell BK1359.out 0).trans rfl, (blk_cell BK1359.out 1).trans rfl⟩ (fun hHeld => ?_)
 clear hK K
 refine norm_ (a' := ?_) ?_ ?_
 rotate_left
 ·show Act.put _ (some 27) _ = _
  simp only [Act.put, List.setIfInBounds_toArray, List.set_cons_zero, List.set_cons_succ, i64_w, i32_w]
  rfl
 refine one_ (i := 3) (N := some 29) #[true, true, true, true, true, true, false, false, false, false, false, false] rfl rfl (one_of HT_.out (by kernel_rfl)) (by decide) (fun K hK => ?_)
 refine goes_ Try.func18 (by kernel_rfl) rfl #[.agg #[.int .i64 a1_0, .int .i64 a1_1]] (by rfl) rfl rfl zav3 ?_
 with_reducible refine (laws_toLeaper.calls a1_0 a1_1 t1366 t1367 _ A13.out).mono ?_
 rintro e w26 ⟨rfl, hb⟩
 refine ⟨_, rfl, ?_⟩
 have n0_ := Aside0.mk (Kd.R_below zav14 hb)
 have n1_ := Aside0.mk (blk_below (g := gb1358) (o := .cells #[.int .i64 a0_0, .int .i64 a0_1, .slice A0_2 l0_2.length c0_2] 24 (0, 0)) zav2 hb)
 have n2_ := Aside0.mk (blk_below (g := gb1359) (o := .cells #[.int .i64 a1_0, .int .i64 a1_1] 26 (0, 0)) zav4 hb)
 have n3_ := Aside0.mk (below_step zav6 hb)
 clear HO1365
 clear BK1358
 clear BK1359
 clear HB
 have HO1365 := n0_
 have BK1358 := n1_
 have BK1359 := n2_
 have HB := n3_
 clear n0_ n1_ n2_ n3_
 (try clear hb)
 (try clear hb2)
 (try clear hk)
 (try clear hi)
 (try clear hna_)
 (try clear hnb_)
 obtain ⟨Ao27, co27, eo27⟩ := Kd.R_slice HO1365.out
 (first | subst eo27 | (injection eo27 with f1_ f2_ f3_; have f4_ := f1_.symm; have f5_ := f3_.symm; clear f1_ f2_ f3_; subst f4_; subst f5_))
 refine hK.out _ _ ⟨(blk_cell BK1358.out 0).trans rfl, (blk_cell BK1358.out 1).trans rfl, (blk_cell BK1358.out 2).trans rfl, (blk_cell BK1359.out 0).trans rfl, (blk_cell BK1359.out 1).trans rfl⟩ (fun hHeld => ?_)
 clear hK K
 refine norm_ (a' := ?_) ?_ ?_
 rotate_left
 ·show Act.put _ (some 29) _ = _
  simp only [Act.put, List.setIfInBounds_toArray, List.set_cons_zero, List.set_cons_succ, i64_w, i32_w]
  rfl
 refine one_ (i := 6) (N := some 32) #[true, true, true, true, true, true, true, false, false, false, false, false] rfl rfl (one_of HT_.out (by kernel_rfl)) (by decide) (fun K hK => ?_)
 refine goes_ Try.func44 (by kernel_rfl) rfl #[.agg #[.int .i64 t1361, .int .i64 t1362, .slice Ao27 t1363.length co27], .agg #[.int .i64 t1366, .int .i64 t1367], .int .i64 a2, .int .i64 a3] (by rfl) rfl rfl zav3 ?_
 with_reducible refine (spec_FirstRoute.calls k t1361 t1362 _ _ t1363 t1366 t1367 a2 a3 t1368 t1371 _ ?side1 ?side2 A14.out).mono ?_
 (case side1 => repeat (first | exact (Kd.R_reads' HO1365.out).2.2 | (with_reducible refine Kd.C_alloc ?_ _) | (with_reducible refine Kd.C_drewN ?_ _) | (with_reducible refine Kd.C_drew ?_)))
 (case side2 => exact (Kd.R_reads' HO1365.out).2.1)
 rintro e w28 ⟨v1369, rfl, ho0, hb⟩
 refine ⟨_, rfl, ?_⟩
 have n0_ := Aside0.mk (Kd.R_elder' zav14 (Kd.R_base ho0) hb)
 have n1_ := Aside0.mk (Kd.R_lower (Kd.R_new' ho0 (Kd.R_lt zav14)) (below_size zav6))
 have n2_ := Aside0.mk (blk_below (g := gb1358) (o := .cells #[.int .i64 a0_0, .int .i64 a0_1, .slice A0_2 l0_2.length c0_2] 24 (0, 0)) zav2 hb)
 have n3_ := Aside0.mk (blk_below (g := gb1359) (o := .cells #[.int .i64 a1_0, .int .i64 a1_1] 26 (0, 0)) zav4 hb)
 have n4_ := Aside0.mk (below_step zav6 hb)
 clear HO1365
 clear BK1358
 clear BK1359
 clear HB
 have HO1365 := n0_
 have HO1370 := n1_
 have BK1358 := n2_
 have BK1359 := n3_
 have HB := n4_
 clear n0_ n1_ n2_ n3_ n4_
 (try clear hb)
 (try clear hb2)
 (try clear hk)
 (try clear hi)
 (try clear ho0)
 (try clear hna_)
 (try clear hnb_)
 refine hK.out _ _ ⟨(blk_cell BK1358.out 0).trans rfl, (blk_cell BK1358.out 1).trans rfl, (blk_cell BK1358.out 2).trans rfl, (blk_cell BK1359.out 0).trans rfl, (blk_cell BK1359.out 1).trans rfl⟩ (fun hHeld => ?_)
 clear hK K
 refine norm_ (a' := ?_) ?_ ?_
 rotate_left
 ·show Act.put _ (some 32) _ = _
  simp only [Act.put, List.setIfInBounds_toArray, List.set_cons_zero, List.set_cons_succ, i64_w, i32_w]
  rfl
 refine pure_ (i := 7) (N := some 25) (v := ?_) (a' := ?_) #[true, true, true, true, true, true, true, true, false, false, false, false] rfl rfl (any_of HT_.out (by kernel_rfl)) (fun _ _ _ h => h) (Or.inl ⟨by rfl, ?_⟩) ?_ ?_
 rotate_left
 ·intro w'
  go_simp
  with_reducible rfl
 rotate_left
 ·simp only [Act.put, List.setIfInBounds_toArray, List.set_cons_zero, List.set_cons_succ, i64_w, i32_w]
  rfl
 refine pure_ (i := 8) (N := some 33) (v := ?_) (a' := ?_) #[true, true, true, true, true, true, true, true, true, false, false, false] rfl rfl (any_of HT_.out (by kernel_rfl)) (fun _ _ _ h => h) (Or.inl ⟨by rfl, ?_⟩) ?_ ?_
 rotate_left
 ·intro w'
  go_simp
  with_reducible rfl
 rotate_left
 ·simp only [Act.put, List.setIfInBounds_toArray, List.set_cons_zero, List.set_cons_succ, i64_w, i32_w]
  rfl
 refine pure_ (i := 9) (N := some 34) (v := ?_) (a' := ?_) #[true, true, true, true, true, true, true, true, true, true, false, false] rfl rfl (any_of HT_.out (by kernel_rfl)) (fun _ _ _ h => h) (Or.inl ⟨by rfl, ?_⟩) ?_ ?_
 rotate_left
 ·intro w'
  go_simp
  with_reducible rfl
 rotate_left
 ·simp only [Act.put, List.setIfInBounds_toArray, List.set_cons_zero, List.set_cons_succ, i64_w, i32_w]
  rfl
 refine pure_ (i := 10) (N := some 10) (v := ?_) (a' := ?_) #[true, true, true, true, true, true, true, true, true, true, true, false] rfl rfl (any_of HT_.out (by kernel_rfl)) (fun _ _ _ h => h) (Or.inl ⟨by rfl, ?_⟩) ?_ ?_
 rotate_left
 ·intro w'
  go_simp
  with_reducible rfl
 rotate_left
 ·simp only [Act.put, List.setIfInBounds_toArray, List.set_cons_zero, List.set_cons_succ, i64_w, i32_w]
  rfl
 refine pure_ (i := 11) (N := some 11) (v := ?_) (a' := ?_) #[true, true, true, true, true, true, true, true, true, true, true, true] rfl rfl (any_of HT_.out (by kernel_rfl)) (fun _ _ _ h => h) (Or.inl ⟨by rfl, ?_⟩) ?_ ?_
 rotate_left
 ·intro w'
  go_simp
  with_reducible rfl
 rotate_left
 ·simp only [Act.put, List.setIfInBounds_toArray, List.set_cons_zero, List.set_cons_succ, i64_w, i32_w]
  rfl
 refine done_ (done_of HT_.out (by kernel_rfl)) ?_
 have hcz29_0 : w28.cell? ⟨gb1358, 0, none⟩ = some (.int .i64 a0_0) := (blk_cell BK1358.out 0).trans rfl
 have hcz29_1 : w28.cell? ⟨gb1358, 1, none⟩ = some (.int .i64 a0_1) := (blk_cell BK1358.out 1).trans rfl
 have hcz29_2 : w28.cell? ⟨gb1358, 2, none⟩ = some (.slice A0_2 l0_2.length c0_2) := (blk_cell BK1358.out 2).trans rfl
 have hfz29_0 := blk_frozen BK1358.out 0
 have hfz29_1 := blk_frozen BK1358.out 1
 have hfz29_2 := blk_frozen BK1358.out 2
 try go_wp2_with (first | ((with_reducible refine gate_callee (f := 17) rfl ?_); refine goesL_ (some 36) rfl rfl Try.func17 (by kernel_rfl) rfl #[.agg #[.int .i64 a0_0, .int .i64 a0_1, .slice A0_2 l0_2.length c0_2]] rfl zav3 ?_; (with_reducible refine (laws_toBoard.calls k a0_0 a0_1 _ _ l0_2 t1372 t1373 t1374 _ ?side1 ?side2 A15.out).mono ?_); (case side1 => exact zav12); (case side2 => exact HC0_2.out); rintro e w30 ⟨v1375, rfl, ho0, hb⟩; refine ⟨_, rfl, ?_⟩; have n0_ := Aside0.mk (Kd.R_elder' zav14 (Kd.R_base ho0) hb); have n1_ := Aside0.mk (Kd.R_elder' zav17 (Kd.R_base ho0) hb); have n2_ := Aside0.mk (Kd.R_lower (Kd.R_new' (Kd.R_new' ho0 (Kd.R_lt zav14)) (Kd.R_lt zav17)) (below_size zav6)); have n3_ := Aside0.mk (blk_below (g := gb1358) (o := .cells #[.int .i64 a0_0, .int .i64 a0_1, .slice A0_2 l0_2.length c0_2] 24 (0, 0)) zav2 hb); have n4_ := Aside0.mk (blk_below (g := gb1359) (o := .cells #[.int .i64 a1_0, .int .i64 a1_1] 26 (0, 0)) zav4 hb); have n5_ := Aside0.mk (below_step zav6 hb); clear HO1365; clear HO1370; clear BK1358; clear BK1359; clear HB; have HO1365 := n0_; have HO1370 := n1_; have HO1376 := n2_; have BK1358 := n3_; have BK1359 := n4_; have HB := n5_; clear n0_ n1_ n2_ n3_ n4_ n5_; (try clear hb); (try clear hb2); (try clear hk); (try clear hi); (try clear ho0); (try clear hna_); (try clear hnb_)) | ((with_reducible refine gate_dst (N := 12) rfl ?_); refine box_event ?hg (N := 12) ?hd (cs := #[.int .i64 0, .int .i64 0, .slice none 0 0]) (t := 30) ?hr ?_; (case hd => rfl); (case hg => rfl); (case hr => first | (go_simp; done) | (go_simp; rfl)); intro gb1377 hg w31 hbox hb; have n0_ := Aside0.mk (Kd.R_below zav14 hb); have n1_ := Aside0.mk (Kd.R_below zav17 hb); have n2_ := Aside0.mk (Kd.R_below zav20 hb); have n3_ := Aside0.mk (blk_below (g := gb1358) (o := .cells #[.int .i64 a0_0, .int .i64 a0_1, .slice A0_2 l0_2.length c0_2] 24 (0, 0)) zav2 hb); have n4_ := Aside0.mk (blk_below (g := gb1359) (o := .cells #[.int .i64 a1_0, .int .i64 a1_1] 26 (0, 0)) zav4 hb); have n5_ := Aside0.mk (below_step zav6 hb); have n6_ := Aside0.mk (hbox); have n7_ := Aside0.mk ((by rw [hg]; exact (below_size zav6) : w.heap.size ≤ gb1377)); have n8_ := Aside0.mk ((by rw [hg]; exact (below_size zav6) : w.heap.size ≤ gb1377)); have n9_ := Aside0.mk ((zav40 : gb1358 ≠ gb1377)); have n10_ := Aside0.mk ((zav41 : gb1377 ≠ gb1358)); have n11_ := Aside0.mk ((by rw [hg]; exact Nat.ne_of_lt (blk_lt (g := gb1359) (o := .cells #[.int .i64 a1_0, .int .i64 a1_1] 26 (0, 0)) zav4) : gb1359 ≠ gb1377)); have n12_ := Aside0.mk ((by rw [hg]; exact Nat.ne_of_gt (blk_lt (g := gb1359) (o := .cells #[.int .i64 a1_0, .int .i64 a1_1] 26 (0, 0)) zav4) : gb1377 ≠ gb1359)); clear HO1365; clear HO1370; clear HO1376; clear BK1358; clear BK1359; clear HB; have HO1365 := n0_; have HO1370 := n1_; have HO1376 := n2_; have BK1358 := n3_; have BK1359 := n4_; have HB := n5_; have BK1377 := n6_; have GW1377 := n7_; have GE1377 := n8_; have NB1358_1377 := n9_; have NB1377_1358 := n10_; have NB1359_1377 := n11_; have NB1377_1359 := n12_; clear n0_ n1_ n2_ n3_ n4_ n5_ n6_ n7_ n8_ n9_ n10_ n11_ n12_; clear hb hbox hg; have hnb32 := NB1377_1358.out; have hnc32 := NB1358_1377.out; have hnb33 := NB1377_1359.out; have hnc33 := NB1359_1377.out; have hcz34_0 : w31.cell? ⟨gb1377, 0, none⟩ = some (.int .i64 0) := (blk_cell BK1377.out 0).trans rfl; have hcz34_1 : w31.cell? ⟨gb1377, 1, none⟩ = some (.int .i64 0) := (blk_cell BK1377.out 1).trans rfl; have hcz34_2 : w31.cell? ⟨gb1377, 2, none⟩ = some (.slice none 0 0) := (blk_cell BK1377.out 2).trans rfl; have hfz34_0 := blk_frozen BK1377.out 0; have hfz34_1 := blk_frozen BK1377.out 1; have hfz34_2 := blk_frozen BK1377.out 2; obtain ⟨Ao35, co35, eo35⟩ := Kd.R_slice HO1376.out; subst eo35))
 have n0_ : Aside0 (Kd.R (Kd.int .i64) 3 (((w31.setCell ⟨gb1377, 0, none⟩ (.int .i64 t1372)).setCell ⟨gb1377, 1, none⟩ (.int .i64 t1373)).setCell ⟨gb1377, 2, none⟩ (.slice Ao35 t1374.length co35)) w.heap.size (fun k_ => some k_ ≠ (v1369 : Value).ownBlock ∧ some k_ ≠ (.slice Ao35 t1374.length co35 : Value).ownBlock) (.slice Ao27 t1363.length co27) t1363) := ⟨by (with_reducible repeat (first | apply Kd.R_alloc | apply Kd.R_drewN | apply Kd.R_drew)); exact Kd.R_mono (Kd.R_far (p := ⟨gb1377, 2, none⟩) (Kd.R_far (p := ⟨gb1377, 1, none⟩) (Kd.R_far (p := ⟨gb1377, 0, none⟩) (Kd.R_types HO1365.out BK1377.out (by decide)) (fun _ hk => hk.2) (.int .i64 t1372)) (fun _ hk => hk.2) (.int .i64 t1373)) (fun _ hk => hk.2) (.slice Ao35 t1374.length co35)) (fun _ hk => ⟨hk.1.1.2, hk.1.2⟩)⟩
 have n1_ : Aside0 (Kd.R (Kd.int .i64) 3 (((w31.setCell ⟨gb1377, 0, none⟩ (.int .i64 t1372)).setCell ⟨gb1377, 1, none⟩ (.int .i64 t1373)).setCell ⟨gb1377, 2, none⟩ (.slice Ao35 t1374.length co35)) w.heap.size (fun k_ => some k_ ≠ (.slice Ao27 t1363.length co27 : Value).ownBlock ∧ some k_ ≠ (.slice Ao35 t1374.length co35 : Value).ownBlock) v1369 t1368) := ⟨by (with_reducible repeat (first | apply Kd.R_alloc | apply Kd.R_drewN | apply Kd.R_drew)); exact Kd.R_mono (Kd.R_far (p := ⟨gb1377, 2, none⟩) (Kd.R_far (p := ⟨gb1377, 1, none⟩) (Kd.R_far (p := ⟨gb1377, 0, none⟩) (Kd.R_types HO1370.out BK1377.out (by decide)) (fun _ hk => hk.2) (.int .i64 t1372)) (fun _ hk => hk.2) (.int .i64 t1373)) (fun _ hk => hk.2) (.slice Ao35 t1374.length co35)) (fun _ hk => ⟨hk.1.1.2, hk.1.2⟩)⟩
 have n2_ : Aside0 (Kd.R (Kd.int .i64) 3 (((w31.setCell ⟨gb1377, 0, none⟩ (.int .i64 t1372)).setCell ⟨gb1377, 1, none⟩ (.int .i64 t1373)).setCell ⟨gb1377, 2, none⟩ (.slice Ao35 t1374.length co35)) w.heap.size (fun k_ => some k_ ≠ (.slice Ao27 t1363.length co27 : Value).ownBlock ∧ some k_ ≠ (v1369 : Value).ownBlock) (.slice Ao35 t1374.length co35) t1374) := ⟨by (with_reducible repeat (first | apply Kd.R_alloc | apply Kd.R_drewN | apply Kd.R_drew)); exact Kd.R_mono (Kd.R_far (p := ⟨gb1377, 2, none⟩) (Kd.R_far (p := ⟨gb1377, 1, none⟩) (Kd.R_far (p := ⟨gb1377, 0, none⟩) (Kd.R_types HO1376.out BK1377.out (by decide)) (fun _ hk => hk.2) (.int .i64 t1372)) (fun _ hk => hk.2) (.int .i64 t1373)) (fun _ hk => hk.2) (.slice Ao35 t1374.length co35)) (fun _ hk => ⟨hk.1.1.2, hk.1.2⟩)⟩
 have n3_ : Aside0 ((((w31.setCell ⟨gb1377, 0, none⟩ (.int .i64 t1372)).setCell ⟨gb1377, 1, none⟩ (.int .i64 t1373)).setCell ⟨gb1377, 2, none⟩ (.slice Ao35 t1374.length co35)).heap[gb1358]? = some (.cells #[.int .i64 a0_0, .int .i64 a0_1, .slice A0_2 l0_2.length c0_2] 24 (0, 0))) := ⟨by (with_reducible repeat (first | refine blk_drewN ?_ _ | refine blk_drew ?_ | refine blk_alloc ?_ _)); refine blk_far ?_ NB1358_1377.out _; (with_reducible repeat (first | refine blk_drewN ?_ _ | refine blk_drew ?_ | refine blk_alloc ?_ _)); refine blk_far ?_ NB1358_1377.out _; (with_reducible repeat (first | refine blk_drewN ?_ _ | refine blk_drew ?_ | refine blk_alloc ?_ _)); refine blk_far ?_ NB1358_1377.out _; (with_reducible repeat (first | refine blk_drewN ?_ _ | refine blk_drew ?_ | refine blk_alloc ?_ _)); exact BK1358.out⟩
 have n4_ : Aside0 ((((w31.setCell ⟨gb1377, 0, none⟩ (.int .i64 t1372)).setCell ⟨gb1377, 1, none⟩ (.int .i64 t1373)).setCell ⟨gb1377, 2, none⟩ (.slice Ao35 t1374.length co35)).heap[gb1359]? = some (.cells #[.int .i64 a1_0, .int .i64 a1_1] 26 (0, 0))) := ⟨by (with_reducible repeat (first | refine blk_drewN ?_ _ | refine blk_drew ?_ | refine blk_alloc ?_ _)); refine blk_far ?_ NB1359_1377.out _; (with_reducible repeat (first | refine blk_drewN ?_ _ | refine blk_drew ?_ | refine blk_alloc ?_ _)); refine blk_far ?_ NB1359_1377.out _; (with_reducible repeat (first | refine blk_drewN ?_ _ | refine blk_drew ?_ | refine blk_alloc ?_ _)); refine blk_far ?_ NB1359_1377.out _; (with_reducible repeat (first | refine blk_drewN ?_ _ | refine blk_drew ?_ | refine blk_alloc ?_ _)); exact BK1359.out⟩
 have n5_ : Aside0 ((((w31.setCell ⟨gb1377, 0, none⟩ (.int .i64 t1372)).setCell ⟨gb1377, 1, none⟩ (.int .i64 t1373)).setCell ⟨gb1377, 2, none⟩ (.slice Ao35 t1374.length co35)).heap[gb1377]? = some (.cells #[.int .i64 t1372, .int .i64 t1373, .slice Ao35 t1374.length co35] 30 (0, 0))) := ⟨by (with_reducible repeat (first | refine blk_drewN ?_ _ | refine blk_drew ?_ | refine blk_alloc ?_ _)); refine blk_put (cs := #[.int .i64 t1372, .int .i64 t1373, .slice none 0 0]) ?_ 2 _ rfl; (with_reducible repeat (first | refine blk_drewN ?_ _ | refine blk_drew ?_ | refine blk_alloc ?_ _)); refine blk_put (cs := #[.int .i64 t1372, .int .i64 0, .slice none 0 0]) ?_ 1 _ rfl; (with_reducible repeat (first | refine blk_drewN ?_ _ | refine blk_drew ?_ | refine blk_alloc ?_ _)); refine blk_put (cs := #[.int .i64 0, .int .i64 0, .slice none 0 0]) ?_ 0 _ rfl; (with_reducible repeat (first | refine blk_drewN ?_ _ | refine blk_drew ?_ | refine blk_alloc ?_ _)); exact BK1377.out⟩
 have n6_ : Aside0 (Below w.heap.size w (((w31.setCell ⟨gb1377, 0, none⟩ (.int .i64 t1372)).setCell ⟨gb1377, 1, none⟩ (.int .i64 t1373)).setCell ⟨gb1377, 2, none⟩ (.slice Ao35 t1374.length co35))) := ⟨zav1⟩
 (try clear HO1365)
 (try clear HO1370)
 (try clear HO1376)
 (try clear BK1358)
 (try clear BK1359)
 (try clear BK1377)
 (try clear HB)
 generalize (((w31.setCell ⟨gb1377, 0, none⟩ (.int .i64 t1372)).setCell ⟨gb1377, 1, none⟩ (.int .i64 t1373)).setCell ⟨gb1377, 2, none⟩ (.slice Ao35 t1374.length co35)) = w36 at n0_ n1_ n2_ n3_ n4_ n5_ n6_ ⊢
 have HO1365 := n0_
 have HO1370 := n1_
 have HO1376 := n2_
 have BK1358 := n3_
 have BK1359 := n4_
 have BK1377 := n5_
 have HB := n6_
 clear n0_ n1_ n2_ n3_ n4_ n5_ n6_
 have n0_ := Aside0.mk (Kd.R_drew HO1365.out)
 have n1_ := Aside0.mk (Kd.R_drew HO1370.out)
 have n2_ := Aside0.mk (Kd.R_drew HO1376.out)
 have n3_ := Aside0.mk (blk_drew BK1358.out)
 have n4_ := Aside0.mk (blk_drew BK1359.out)
 have n5_ := Aside0.mk (blk_drew BK1377.out)
 have n6_ := Aside0.mk (below_drew1 HB.out)
 clear HO1365
 clear HO1370
 clear HO1376
 clear BK1358
 clear BK1359
 clear BK1377
 clear HB
 have HO1365 := n0_
 have HO1370 := n1_
 have HO1376 := n2_
 have BK1358 := n3_
 have BK1359 := n4_
 have BK1377 := n5_
 have HB := n6_
 clear n0_ n1_ n2_ n3_ n4_ n5_ n6_
 refine start_ (n := 11) (S := fun w' => w'.cell? ⟨gb1377, 0, none⟩ = some (.int .i64 t1372) ∧ w'.cell? ⟨gb1377, 1, none⟩ = some (.int .i64 t1373) ∧ w'.cell? ⟨gb1377, 2, none⟩ = some (.slice Ao35 t1374.length co35) ∧ w'.cell? ⟨gb1359, 0, none⟩ = some (.int .i64 a1_0) ∧ w'.cell? ⟨gb1359, 1, none⟩ = some (.int .i64 a1_1)) (ds := []) #[false, false, false, false, false, false, false, false, false, false, false] (by kernel_rfl) rfl rfl ⟨(blk_cell BK1377.out 0).trans rfl, (blk_cell BK1377.out 1).trans rfl, (blk_cell BK1377.out 2).trans rfl, (blk_cell BK1359.out 0).trans rfl, (blk_cell BK1359.out 1).trans rfl⟩ (fun hHeld => ?_); refine with_tabW laws_FnExactFirstRoute.tab7 laws_FnExactFirstRoute.bits7 (fun HT_ HW_ => ?_)
 generalize w36.drew = w37 at HO1365 HO1370 HO1376 BK1358 BK1359 BK1377 HB hHeld ⊢
 refine pure_ (i := 3) (N := some 41) (v := ?_) (a' := ?_) #[false, false, false, true, false, false, false, false, false, false, false] rfl rfl (any_of HT_.out (by kernel_rfl)) (fun _ _ _ h => h) (Or.inl ⟨by rfl, ?_⟩) ?_ ?_
 rotate_left
 ·intro w'
  go_simp
  with_reducible rfl
 rotate_left
 ·simp only [Act.put, List.setIfInBounds_toArray, List.set_cons_zero, List.set_cons_succ, i64_w, i32_w]
  rfl
 refine pure_ (i := 4) (N := some 42) (v := ?_) (a' := ?_) #[false, false, false, true, true, false, false, false, false, false, false] rfl rfl (any_of HT_.out (by kernel_rfl)) (fun _ _ _ h => h) (Or.inl ⟨by rfl, ?_⟩) ?_ ?_
 rotate_left
 ·intro w'
  go_simp
  with_reducible rfl
 rotate_left
 ·simp only [Act.put, List.setIfInBounds_toArray, List.set_cons_zero, List.set_cons_succ, i64_w, i32_w]
  rfl
 refine take_ (i := 0) (N := some 38) (v := ?_) (a' := ?_) #[true, false, false, true, true, false, false, false, false, false, false] rfl rfl (take_ofW HT_.out HW_.out (by kernel_rfl)) (fun _ _ _ h => h) (Or.inl ⟨by rfl, ?_⟩) hHeld ?_ ?_
 rotate_left
 ·rintro w' ⟨s0, s1, s2, s3, s4⟩
  go_simp
  with_reducible rfl
 rotate_left
 ·simp only [Act.put, List.setIfInBounds_toArray, List.set_cons_zero, List.set_cons_succ, i64_w, i32_w]
  rfl
 refine take_ (i := 1) (N := some 39) (v := ?_) (a' := ?_) #[true, true, false, true, true, false, false, false, false, false, false] rfl rfl (take_ofW HT_.out HW_.out (by kernel_rfl)) (fun _ _ _ h => h) (Or.inl ⟨by rfl, ?_⟩) hHeld ?_ ?_
 rotate_left
 ·rintro w' ⟨s0, s1, s2, s3, s4⟩
  go_simp
  with_reducible rfl
 rotate_left
 ·simp only [Act.put, List.setIfInBounds_toArray, List.set_cons_zero, List.set_cons_succ, i64_w, i32_w]
  rfl
 refine one_ (i := 2) (N := some 40) #[true, true, true, true, true, false, false, false, false, false, false] rfl rfl (one_of HT_.out (by kernel_rfl)) (by decide) (fun K hK => ?_)
 refine goes_ Try.func18 (by kernel_rfl) rfl #[.agg #[.int .i64 a1_0, .int .i64 a1_1]] (by rfl) rfl rfl zav3 ?_
 with_reducible refine (laws_toLeaper.calls a1_0 a1_1 t1378 t1379 _ A16.out).mono ?_
 rintro e w38 ⟨rfl, hb⟩
 refine ⟨_, rfl, ?_⟩
 have n0_ := Aside0.mk (Kd.R_below zav14 hb)
 have n1_ := Aside0.mk (Kd.R_below zav17 hb)
 have n2_ := Aside0.mk (Kd.R_below zav20 hb)
 have n3_ := Aside0.mk (blk_below (g := gb1358) (o := .cells #[.int .i64 a0_0, .int .i64 a0_1, .slice A0_2 l0_2.length c0_2] 24 (0, 0)) zav2 hb)
 have n4_ := Aside0.mk (blk_below (g := gb1359) (o := .cells #[.int .i64 a1_0, .int .i64 a1_1] 26 (0, 0)) zav4 hb)
 have n5_ := Aside0.mk (blk_below (g := gb1377) (o := .cells #[.int .i64 t1372, .int .i64 t1373, .slice Ao35 t1374.length co35] 30 (0, 0)) zav7 hb)
 have n6_ := Aside0.mk (below_step zav1 hb)
 clear HO1365
 clear HO1370
 clear HO1376
 clear BK1358
 clear BK1359
 clear BK1377
 clear HB
 have HO1365 := n0_
 have HO1370 := n1_
 have HO1376 := n2_
 have BK1358 := n3_
 have BK1359 := n4_
 have BK1377 := n5_
 have HB := n6_
 clear n0_ n1_ n2_ n3_ n4_ n5_ n6_
 (try clear hb)
 (try clear hb2)
 (try clear hk)
 (try clear hi)
 (try clear hna_)
 (try clear hnb_)
 refine hK.out _ _ ⟨(blk_cell BK1377.out 0).trans rfl, (blk_cell BK1377.out 1).trans rfl, (blk_cell BK1377.out 2).trans rfl, (blk_cell BK1359.out 0).trans rfl, (blk_cell BK1359.out 1).trans rfl⟩ (fun hHeld => ?_)
 clear hK K
 refine norm_ (a' := ?_) ?_ ?_
 rotate_left
 ·show Act.put _ (some 40) _ = _
  simp only [Act.put, List.setIfInBounds_toArray, List.set_cons_zero, List.set_cons_succ, i64_w, i32_w]
  rfl
 refine one_ (i := 5) (N := some 43) #[true, true, true, true, true, true, false, false, false, false, false] rfl rfl (one_of HT_.out (by kernel_rfl)) (by decide) (fun K hK => ?_)
 refine goes_ Try.func45 (by kernel_rfl) rfl #[.agg #[.int .i64 t1372, .int .i64 t1373, .slice Ao35 t1374.length co35], .agg #[.int .i64 t1378, .int .i64 t1379], .int .i64 a2, .int .i64 a3] (by rfl) rfl rfl zav3 ?_
 with_reducible refine (impl_FirstRoute.calls k t1372 t1373 _ _ t1374 t1378 t1379 a2 a3 t1380 t1383 _ ?side1 ?side2 A17.out).mono ?_
 (case side1 => repeat (first | exact (Kd.R_reads' HO1376.out).2.2 | (with_reducible refine Kd.C_alloc ?_ _) | (with_reducible refine Kd.C_drewN ?_ _) | (with_reducible refine Kd.C_drew ?_)))
 (case side2 => exact (Kd.R_reads' HO1376.out).2.1)
 rintro e w39 ⟨v1381, rfl, ho0, hb⟩
 refine ⟨_, rfl, ?_⟩
 have n0_ := Aside0.mk (Kd.R_elder' zav14 (Kd.R_base ho0) hb)
 have n1_ := Aside0.mk (Kd.R_elder' zav17 (Kd.R_base ho0) hb)
 have n2_ := Aside0.mk (Kd.R_elder' zav20 (Kd.R_base ho0) hb)
 have n3_ := Aside0.mk (Kd.R_lower (Kd.R_new' (Kd.R_new' (Kd.R_new' ho0 (Kd.R_lt zav14)) (Kd.R_lt zav17)) (Kd.R_lt zav20)) (below_size zav1))
 have n4_ := Aside0.mk (blk_below (g := gb1358) (o := .cells #[.int .i64 a0_0, .int .i64 a0_1, .slice A0_2 l0_2.length c0_2] 24 (0, 0)) zav2 hb)
 have n5_ := Aside0.mk (blk_below (g := gb1359) (o := .cells #[.int .i64 a1_0, .int .i64 a1_1] 26 (0, 0)) zav4 hb)
 have n6_ := Aside0.mk (blk_below (g := gb1377) (o := .cells #[.int .i64 t1372, .int .i64 t1373, .slice Ao35 t1374.length co35] 30 (0, 0)) zav7 hb)
 have n7_ := Aside0.mk (below_step zav1 hb)
 clear HO1365
 clear HO1370
 clear HO1376
 clear BK1358
 clear BK1359
 clear BK1377
 clear HB
 have HO1365 := n0_
 have HO1370 := n1_
 have HO1376 := n2_
 have HO1382 := n3_
 have BK1358 := n4_
 have BK1359 := n5_
 have BK1377 := n6_
 have HB := n7_
 clear n0_ n1_ n2_ n3_ n4_ n5_ n6_ n7_
 (try clear hb)
 (try clear hb2)
 (try clear hk)
 (try clear hi)
 (try clear ho0)
 (try clear hna_)
 (try clear hnb_)
 refine hK.out _ _ ⟨(blk_cell BK1377.out 0).trans rfl, (blk_cell BK1377.out 1).trans rfl, (blk_cell BK1377.out 2).trans rfl, (blk_cell BK1359.out 0).trans rfl, (blk_cell BK1359.out 1).trans rfl⟩ (fun hHeld => ?_)
 clear hK K
 refine norm_ (a' := ?_) ?_ ?_
 rotate_left
 ·show Act.put _ (some 43) _ = _
  simp only [Act.put, List.setIfInBounds_toArray, List.set_cons_zero, List.set_cons_succ, i64_w, i32_w]
  rfl
 refine pure_ (i := 6) (N := some 37) (v := ?_) (a' := ?_) #[true, true, true, true, true, true, true, false, false, false, false] rfl rfl (any_of HT_.out (by kernel_rfl)) (fun _ _ _ h => h) (Or.inl ⟨by rfl, ?_⟩) ?_ ?_
 rotate_left
 ·intro w'
  go_simp
  with_reducible rfl
 rotate_left
 ·simp only [Act.put, List.setIfInBounds_toArray, List.set_cons_zero, List.set_cons_succ, i64_w, i32_w]
  rfl
 refine pure_ (i := 7) (N := some 44) (v := ?_) (a' := ?_) #[true, true, true, true, true, true, true, true, false, false, false] rfl rfl (any_of HT_.out (by kernel_rfl)) (fun _ _ _ h => h) (Or.inl ⟨by rfl, ?_⟩) ?_ ?_
 rotate_left
 ·intro w'
  go_simp
  with_reducible rfl
 rotate_left
 ·simp only [Act.put, List.setIfInBounds_toArray, List.set_cons_zero, List.set_cons_succ, i64_w, i32_w]
  rfl
 refine pure_ (i := 8) (N := some 45) (v := ?_) (a' := ?_) #[true, true, true, true, true, true, true, true, true, false, false] rfl rfl (any_of HT_.out (by kernel_rfl)) (fun _ _ _ h => h) (Or.inl ⟨by rfl, ?_⟩) ?_ ?_
 rotate_left
 ·intro w'
  go_simp
  with_reducible rfl
 rotate_left
 ·simp only [Act.put, List.setIfInBounds_toArray, List.set_cons_zero, List.set_cons_succ, i64_w, i32_w]
  rfl
 refine pure_ (i := 9) (N := some 13) (v := ?_) (a' := ?_) #[true, true, true, true, true, true, true, true, true, true, false] rfl rfl (any_of HT_.out (by kernel_rfl)) (fun _ _ _ h => h) (Or.inl ⟨by rfl, ?_⟩) ?_ ?_
 rotate_left
 ·intro w'
  go_simp
  with_reducible rfl
 rotate_left
 ·simp only [Act.put, List.setIfInBounds_toArray, List.set_cons_zero, List.set_cons_succ, i64_w, i32_w]
  rfl
 refine pure_ (i := 10) (N := some 14) (v := ?_) (a' := ?_) #[true, true, true, true, true, true, true, true, true, true, true] rfl rfl (any_of HT_.out (by kernel_rfl)) (fun _ _ _ h => h) (Or.inl ⟨by rfl, ?_⟩) ?_ ?_
 rotate_left
 ·intro w'
  go_simp
  with_reducible rfl
 rotate_left
 ·simp only [Act.put, List.setIfInBounds_toArray, List.set_cons_zero, List.set_cons_succ, i64_w, i32_w]
  rfl
 refine done_ (done_of HT_.out (by kernel_rfl)) ?_
 go_upto_region 8 with (fail)
 go_cut [54] (fun v54 wc => ∃ (kq : Nat) (x54_17 : Bool), v54 = .bool x54_17 ∧ Aside0 (laws_FnExactFirstRoute.j0 kq a2 a3 t1368 t1371 t1380 t1383 x54_17 a0_0 a0_1 l0_2 a1_0 a1_1 t1372 t1373 t1374 = some r) ∧ Aside0 (kq ≤ k) ∧ Aside0 (Kd.R (Kd.int .i64) 3 wc w.heap.size (fun k_ => some k_ ≠ (v1381 : Value).ownBlock ∧ some k_ ≠ ((.slice Ao35 t1374.length co35) : Value).ownBlock) v1369 t1368) ∧ Aside0 (Kd.R (Kd.int .i64) 3 wc w.heap.size (fun k_ => some k_ ≠ (v1369 : Value).ownBlock ∧ some k_ ≠ ((.slice Ao35 t1374.length co35) : Value).ownBlock) v1381 t1380) ∧ Aside0 (Kd.R (Kd.int .i64) 3 wc w.heap.size (fun k_ => some k_ ≠ (v1369 : Value).ownBlock ∧ some k_ ≠ (v1381 : Value).ownBlock) (.slice Ao35 t1374.length co35) t1374) ∧ Aside0 (wc.heap[gb1358]? = some (.cells #[.int .i64 a0_0, .int .i64 a0_1, (.slice A0_2 l0_2.length c0_2)] 24 (0, 0))) ∧ Aside0 (wc.heap[gb1359]? = some (.cells #[.int .i64 a1_0, .int .i64 a1_1] 26 (0, 0))) ∧ Aside0 (wc.heap[gb1377]? = some (.cells #[.int .i64 t1372, .int .i64 t1373, (.slice Ao35 t1374.length co35)] 30 (0, 0))) ∧ Aside0 (Below w.heap.size w wc))
 case first =>
  have H := HC18.out
  clear HC18
  replace H := Option.bind_eq_some_iff.mp H
  obtain ⟨t1384, A400, H⟩ := H
  replace H : (if t1384 = true then (laws_FnExactFirstRoute.j0 k a2 a3 t1368 t1371 t1380 t1383 (t1383 != t1371) a0_0 a0_1 l0_2 a1_0 a1_1 t1372 t1373 t1374) else (laws_FnExactFirstRoute.j0 k a2 a3 t1368 t1371 t1380 t1383 true a0_0 a0_1 l0_2 a1_0 a1_1 t1372 t1373 t1374)) = some r := H
  have A40 := Aside0.mk A400
  clear A400
  by_cases c41 : t1384 = true
  ·subst c41
   have H1 : (laws_FnExactFirstRoute.j0 k a2 a3 t1368 t1371 t1380 t1383 (t1383 != t1371) a0_0 a0_1 l0_2 a1_0 a1_1 t1372 t1373 t1374) = some r := by rw [if_pos rfl] at H; exact H
   clear H
   have H := H1
   clear H1
   have H' := Aside0.mk H
   clear H
   obtain ⟨Ao42, co42, eo42⟩ := Kd.R_slice HO1382.out
   subst eo42
   obtain ⟨Ao43, co43, eo43⟩ := Kd.R_slice HO1370.out
   subst eo43
   go_wp2_with (first | ((with_reducible refine gate_callee (f := 21) rfl ?_); refine goesL_ (some 48) rfl rfl Try.func21 (by kernel_rfl) rfl #[.slice Ao42 t1380.length co42, .slice Ao43 t1368.length co43] rfl zav3 ?_; (with_reducible refine (laws_eqIntS.calls k _ _ t1380 _ _ t1368 true _ ?side1 ?side2 ?side3 ?side4 A40.out).mono ?_); (case side1 => exact zav32); (case side2 => exact (Kd.R_reads' HO1382.out).2.1); (case side3 => exact zav33); (case side4 => exact (Kd.R_reads' HO1370.out).2.1); rintro e w' ⟨rfl, ⟨nd, rfl⟩⟩; refine ⟨_, rfl, ?_⟩))
   go_meet
   case rel => exact ⟨_, ((t1383 != t1371)), zav24, H', ⟨by first | omega | exact Nat.le_refl _⟩, ⟨zav39⟩, ⟨zav37⟩, ⟨zav38⟩, ⟨zav2⟩, ⟨zav4⟩, ⟨zav7⟩, ⟨zav1⟩⟩
  replace c41 := Bool.eq_false_iff.mpr c41
  subst c41
  have H1 : (laws_FnExactFirstRoute.j0 k a2 a3 t1368 t1371 t1380 t1383 true a0_0 a0_1 l0_2 a1_0 a1_1 t1372 t1373 t1374) = some r := by rw [if_neg (show ¬ (false = true) by decide)] at H; exact H
  clear H
  have H := H1
  clear H1
  have H' := Aside0.mk H
  clear H
  obtain ⟨Ao44, co44, eo44⟩ := Kd.R_slice HO1382.out
  subst eo44
  obtain ⟨Ao45, co45, eo45⟩ := Kd.R_slice HO1370.out
  subst eo45
  go_wp2_with (first | ((with_reducible refine gate_callee (f := 21) rfl ?_); refine goesL_ (some 48) rfl rfl Try.func21 (by kernel_rfl) rfl #[.slice Ao44 t1380.length co44, .slice Ao45 t1368.length co45] rfl zav3 ?_; (with_reducible refine (laws_eqIntS.calls k _ _ t1380 _ _ t1368 false _ ?side1 ?side2 ?side3 ?side4 A40.out).mono ?_); (case side1 => exact zav32); (case side2 => exact (Kd.R_reads' HO1382.out).2.1); (case side3 => exact zav33); (case side4 => exact (Kd.R_reads' HO1370.out).2.1); rintro e w' ⟨rfl, ⟨nd, rfl⟩⟩; refine ⟨_, rfl, ?_⟩))
  go_meet
  case rel => exact ⟨_, (true), zav24, H', ⟨by first | omega | exact Nat.le_refl _⟩, ⟨zav39⟩, ⟨zav37⟩, ⟨zav38⟩, ⟨zav2⟩, ⟨zav4⟩, ⟨zav7⟩, ⟨zav1⟩⟩
 case rest =>
  clear HC18
  try clear c1; try clear c2; try clear p2; try clear c3; try clear c4; try clear c6; try clear c6b0; try clear c9; try clear c13; try clear c15; try clear c17; try clear c18; try clear c21; try clear c32; try clear c33; try clear c41; try clear c44; try clear c45; try clear hcz10_0; try clear hcz10_1; try clear hcz10_2; try clear hcz22_0; try clear hcz22_1; try clear hcz22_2; try clear hcz29_0; try clear hcz29_1; try clear hcz29_2; try clear hcz34_0; try clear hcz34_1; try clear hcz34_2; try clear hfz10_0; try clear hfz10_1; try clear hfz10_2; try clear hfz22_0; try clear hfz22_1; try clear hfz22_2
  try clear hfz29_0; try clear hfz29_1; try clear hfz29_2; try clear hfz34_0; try clear hfz34_1; try clear hfz34_2
  obtain ⟨kq, x54_17, rfl, HA, HJ17, HO_10, HO_13, HO_1378002, BK1358, BK1359, BK1377, HB⟩ := hcut
  cases kq with
  | zero => exact absurd HA.out (by simp [laws_FnExactFirstRoute.j0])
  | succ kj17 =>
   have H := HA.out
   clear HA
   simp only [laws_FnExactFirstRoute.j0] at H
   by_cases c46 : x54_17 = true
   ·subst c46
    have H1 : (some false) = some r := by rw [if_pos rfl] at H; exact H
    clear H
    have H := H1
    clear H1
    obtain rfl := Option.some.inj H
    go_wp2
    go_ret
    exact ⟨zav13, zav1⟩
   replace c46 := Bool.eq_false_iff.mpr c46
   subst c46
   have H1 : ((laws_toBoard.f kj17 a0_0 a0_1 l0_2).bind fun bt1385 => ((laws_eqBoard.f kj17 t1372 t1373 t1374 bt1385.1 bt1385.2.1 bt1385.2.2).bind fun t1390 => (if t1390 = true then ((laws_markBoard.f kj17 t1372 t1373 t1374 1).bind fun bt1391 => (if bt1391.1 < 0 then (laws_FnExactFirstRoute.j1 kj17 a2 a3 t1368 t1371 t1380 true a0_0 a0_1 l0_2 a1_0 a1_1) else ((laws_eqIntS.f kj17 t1380 t1368).bind fun t1393 => (if t1393 = true then (laws_FnExactFirstRoute.j1 kj17 a2 a3 t1368 t1371 t1380 (t1383 != t1371) a0_0 a0_1 l0_2 a1_0 a1_1) else (laws_FnExactFirstRoute.j1 kj17 a2 a3 t1368 t1371 t1380 true a0_0 a0_1 l0_2 a1_0 a1_1))))) else (some false)))) = some r := by rw [if_neg (show ¬ (false = true) by decide)] at H; exact H
   clear H
   have H := H1
   clear H1
   replace H := Option.bind_eq_some_iff.mp H
   obtain ⟨⟨t1385, t1386, t1387⟩, A470, H⟩ := H
   replace H : ((laws_eqBoard.f kj17 t1372 t1373 t1374 t1385 t1386 t1387).bind fun t1390 => (if t1390 = true then ((laws_markBoard.f kj17 t1372 t1373 t1374 1).bind fun bt1391 => (if bt1391.1 < 0 then (laws_FnExactFirstRoute.j1 kj17 a2 a3 t1368 t1371 t1380 true a0_0 a0_1 l0_2 a1_0 a1_1) else ((laws_eqIntS.f kj17 t1380 t1368).bind fun t1393 => (if t1393 = true then (laws_FnExactFirstRoute.j1 kj17 a2 a3 t1368 t1371 t1380 (t1383 != t1371) a0_0 a0_1 l0_2 a1_0 a1_1) else (laws_FnExactFirstRoute.j1 kj17 a2 a3 t1368 t1371 t1380 true a0_0 a0_1 l0_2 a1_0 a1_1))))) else (some false))) = some r := H
   have A47 := Aside0.mk A470
   clear A470
   replace H := Option.bind_eq_some_iff.mp H
   obtain ⟨t1390, A480, H⟩ := H
   replace H : (if t1390 = true then ((laws_markBoard.f kj17 t1372 t1373 t1374 1).bind fun bt1391 => (if bt1391.1 < 0 then (laws_FnExactFirstRoute.j1 kj17 a2 a3 t1368 t1371 t1380 true a0_0 a0_1 l0_2 a1_0 a1_1) else ((laws_eqIntS.f kj17 t1380 t1368).bind fun t1393 => (if t1393 = true then (laws_FnExactFirstRoute.j1 kj17 a2 a3 t1368 t1371 t1380 (t1383 != t1371) a0_0 a0_1 l0_2 a1_0 a1_1) else (laws_FnExactFirstRoute.j1 kj17 a2 a3 t1368 t1371 t1380 true a0_0 a0_1 l0_2 a1_0 a1_1))))) else (some false)) = some r := H
   have A48 := Aside0.mk A480
   clear A480
   by_cases c49 : t1390 = true
   rotate_left
   ·replace c49 := Bool.eq_false_iff.mpr c49
    subst c49
    have H1 : (some false) = some r := by rw [if_neg (show ¬ (false = true) by decide)] at H; exact H
    clear H
    have H := H1
    clear H1
    obtain rfl := Option.some.inj H
    try go_wp2
    have n0_ := Aside0.mk (Kd.R_drew HO_10.out)
    have n1_ := Aside0.mk (Kd.R_drew HO_13.out)
    have n2_ := Aside0.mk (Kd.R_drew HO_1378002.out)
    have n3_ := Aside0.mk (blk_drew BK1358.out)
    have n4_ := Aside0.mk (blk_drew BK1359.out)
    have n5_ := Aside0.mk (blk_drew BK1377.out)
    have n6_ := Aside0.mk (below_drew1 HB.out)
    clear HO_10
    clear HO_13
    clear HO_1378002
    clear BK1358
    clear BK1359
    clear BK1377
    clear HB
    have HO_10 := n0_
    have HO_13 := n1_
    have HO_1378002 := n2_
    have BK1358 := n3_
    have BK1359 := n4_
    have BK1377 := n5_
    have HB := n6_
    clear n0_ n1_ n2_ n3_ n4_ n5_ n6_
    refine start_ (n := 5) (S := fun w' => w'.cell? ⟨gb1377, 0, none⟩ = some (.int .i64 t1372) ∧ w'.cell? ⟨gb1377, 1, none⟩ = some (.int .i64 t1373) ∧ w'.cell? ⟨gb1377, 2, none⟩ = some (.slice Ao35 t1374.length co35) ∧ w'.cell? ⟨gb1358, 0, none⟩ = some (.int .i64 a0_0) ∧ w'.cell? ⟨gb1358, 1, none⟩ = some (.int .i64 a0_1) ∧ w'.cell? ⟨gb1358, 2, none⟩ = some (.slice A0_2 l0_2.length c0_2)) (ds := []) #[false, false, false, false, false] (by kernel_rfl) rfl rfl ⟨(blk_cell BK1377.out 0).trans rfl, (blk_cell BK1377.out 1).trans rfl, (blk_cell BK1377.out 2).trans rfl, (blk_cell BK1358.out 0).trans rfl, (blk_cell BK1358.out 1).trans rfl, (blk_cell BK1358.out 2).trans rfl⟩ (fun hHeld => ?_)
    generalize wc.drew = w97 at HO_10 HO_13 HO_1378002 BK1358 BK1359 BK1377 HB hHeld ⊢
    refine take_ (i := 0) (N := some 55) (v := ?_) (a' := ?_) #[true, false, false, false, false] rfl rfl (by kernel_rfl) (fun _ _ _ h => h) (Or.inl ⟨by rfl, ?_⟩) hHeld ?_ ?_
    rotate_left
    ·rintro w' ⟨s0, s1, s2, s3, s4, s5⟩
     go_simp
     with_reducible rfl
    rotate_left
    ·simp only [Act.put, List.setIfInBounds_toArray, List.set_cons_zero, List.set_cons_succ, i64_w, i32_w]
     rfl
    refine take_ (i := 1) (N := some 56) (v := ?_) (a' := ?_) #[true, true, false, false, false] rfl rfl (by kernel_rfl) (fun _ _ _ h => h) (Or.inl ⟨by rfl, ?_⟩) hHeld ?_ ?_
    rotate_left
    ·rintro w' ⟨s0, s1, s2, s3, s4, s5⟩
     go_simp
     with_reducible rfl
    rotate_left
    ·simp only [Act.put, List.setIfInBounds_toArray, List.set_cons_zero, List.set_cons_succ, i64_w, i32_w]
     rfl
    refine one_ (i := 2) (N := some 57) #[true, true, true, false, false] rfl rfl (by kernel_rfl) (by decide) (fun K hK => ?_)
    refine goes_ Try.func17 (by kernel_rfl) rfl #[.agg #[.int .i64 a0_0, .int .i64 a0_1, .slice A0_2 l0_2.length c0_2]] (by rfl) rfl rfl zav3 ?_
    with_reducible refine (laws_toBoard.calls kj17 a0_0 a0_1 _ _ l0_2 t1385 t1386 t1387 _ ?side1 ?side2 A47.out).mono ?_
    (case side1 => exact zav12)
    (case side2 => exact HC0_2.out)
    rintro e w98 ⟨v1388, rfl, ho0, hb⟩
    refine ⟨_, rfl, ?_⟩
    have n0_ := Aside0.mk (Kd.R_elder' zav11 (Kd.R_base ho0) hb)
    have n1_ := Aside0.mk (Kd.R_elder' zav10 (Kd.R_base ho0) hb)
    have n2_ := Aside0.mk (Kd.R_elder' zav8 (Kd.R_base ho0) hb)
    have n3_ := Aside0.mk (Kd.R_lower (Kd.R_new' (Kd.R_new' (Kd.R_new' ho0 (Kd.R_lt zav11)) (Kd.R_lt zav10)) (Kd.R_lt zav8)) (below_size zav1))
    have n4_ := Aside0.mk (blk_below (g := gb1358) (o := .cells #[.int .i64 a0_0, .int .i64 a0_1, .slice A0_2 l0_2.length c0_2] 24 (0, 0)) zav2 hb)
    have n5_ := Aside0.mk (blk_below (g := gb1359) (o := .cells #[.int .i64 a1_0, .int .i64 a1_1] 26 (0, 0)) zav4 hb)
    have n6_ := Aside0.mk (blk_below (g := gb1377) (o := .cells #[.int .i64 t1372, .int .i64 t1373, .slice Ao35 t1374.length co35] 30 (0, 0)) zav7 hb)
    have n7_ := Aside0.mk (below_step zav1 hb)
    clear HO_10
    clear HO_13
    clear HO_1378002
    clear BK1358
    clear BK1359
    clear BK1377
    clear HB
    have HO_10 := n0_
    have HO_13 := n1_
    have HO_1378002 := n2_
    have HO1389 := n3_
    have BK1358 := n4_
    have BK1359 := n5_
    have BK1377 := n6_
    have HB := n7_
    clear n0_ n1_ n2_ n3_ n4_ n5_ n6_ n7_
    (try clear hb)
    (try clear hb2)
    (try clear hk)
    (try clear hi)
    (try clear ho0)
    (try clear hna_)
    (try clear hnb_)
    obtain ⟨Ao99, co99, eo99⟩ := Kd.R_slice HO1389.out
    (first | subst eo99 | (injection eo99 with f1_ f2_ f3_; have f4_ := f1_.symm; have f5_ := f3_.symm; clear f1_ f2_ f3_; subst f4_; subst f5_))
    refine hK.out _ _ ⟨(blk_cell BK1377.out 0).trans rfl, (blk_cell BK1377.out 1).trans rfl, (blk_cell BK1377.out 2).trans rfl, (blk_cell BK1358.out 0).trans rfl, (blk_cell BK1358.out 1).trans rfl, (blk_cell BK1358.out 2).trans rfl⟩ (fun hHeld => ?_)
    clear hK K
    refine norm_ (a' := ?_) ?_ ?_
    rotate_left
    ·show Act.put _ (some 57) _ = _
     simp only [Act.put, List.setIfInBounds_toArray, List.set_cons_zero, List.set_cons_succ, i64_w, i32_w]
     rfl
    refine one_ (i := 3) (N := some 58) #[true, true, true, true, false] rfl rfl (by kernel_rfl) (by decide) (fun K hK => ?_)
    refine goes_ Try.func22 (by kernel_rfl) rfl #[.agg #[.int .i64 t1372, .int .i64 t1373, .slice Ao35 t1374.length co35], .agg #[.int .i64 t1385, .int .i64 t1386, .slice Ao99 t1387.length co99]] (by rfl) rfl rfl zav3 ?_
    with_reducible refine (laws_eqBoard.calls kj17 t1372 t1373 _ _ t1374 t1385 t1386 _ _ t1387 false _ ?side1 ?side2 ?side3 ?side4 A48.out).mono ?_
    (case side1 => exact zav29)
    (case side2 => exact (Kd.R_reads' HO_1378002.out).2.1)
    (case side3 => exact zav31)
    (case side4 => exact (Kd.R_reads' HO1389.out).2.1)
    rintro e w100 ⟨rfl, hb⟩
    refine ⟨_, rfl, ?_⟩
    have n0_ := Aside0.mk (Kd.R_below zav11 hb)
    have n1_ := Aside0.mk (Kd.R_below zav10 hb)
    have n2_ := Aside0.mk (Kd.R_below zav8 hb)
    have n3_ := Aside0.mk (Kd.R_below (by (with_reducible repeat (first | apply Kd.R_alloc | apply Kd.R_drewN | apply Kd.R_drew)); exact HO1389.out) hb)
    have n4_ := Aside0.mk (blk_below (g := gb1358) (o := .cells #[.int .i64 a0_0, .int .i64 a0_1, .slice A0_2 l0_2.length c0_2] 24 (0, 0)) zav2 hb)
    have n5_ := Aside0.mk (blk_below (g := gb1359) (o := .cells #[.int .i64 a1_0, .int .i64 a1_1] 26 (0, 0)) zav4 hb)
    have n6_ := Aside0.mk (blk_below (g := gb1377) (o := .cells #[.int .i64 t1372, .int .i64 t1373, .slice Ao35 t1374.length co35] 30 (0, 0)) zav7 hb)
    have n7_ := Aside0.mk (below_step zav1 hb)
    clear HO_10
    clear HO_13
    clear HO_1378002
    clear HO1389
    clear BK1358
    clear BK1359
    clear BK1377
    clear HB
    have HO_10 := n0_
    have HO_13 := n1_
    have HO_1378002 := n2_
    have HO1389 := n3_
    have BK1358 := n4_
    have BK1359 := n5_
    have BK1377 := n6_
    have HB := n7_
    clear n0_ n1_ n2_ n3_ n4_ n5_ n6_ n7_
    (try clear hb)
    (try clear hb2)
    (try clear hk)
    (try clear hi)
    (try clear hna_)
    (try clear hnb_)
    refine hK.out _ _ ⟨(blk_cell BK1377.out 0).trans rfl, (blk_cell BK1377.out 1).trans rfl, (blk_cell BK1377.out 2).trans rfl, (blk_cell BK1358.out 0).trans rfl, (blk_cell BK1358.out 1).trans rfl, (blk_cell BK1358.out 2).trans rfl⟩ (fun hHeld => ?_)
    clear hK K
    refine norm_ (a' := ?_) ?_ ?_
    rotate_left
    ·show Act.put _ (some 58) _ = _
     simp only [Act.put, List.setIfInBounds_toArray, List.set_cons_zero, List.set_cons_succ, i64_w, i32_w]
     rfl
    refine pure_ (i := 4) (N := some 59) (v := ?_) (a' := ?_) #[true, true, true, true, true] rfl rfl (by kernel_rfl) (fun _ _ _ h => h) (Or.inl ⟨by rfl, ?_⟩) ?_ ?_
    rotate_left
    ·intro w'
     go_simp
     with_reducible rfl
    rotate_left
    ·simp only [Act.put, List.setIfInBounds_toArray, List.set_cons_zero, List.set_cons_succ, i64_w, i32_w]
     rfl
    refine done_ (by kernel_rfl) ?_
    try go_wp2
    go_ret
    exact ⟨zav13, zav1⟩
   subst c49
   have H1 : ((laws_markBoard.f kj17 t1372 t1373 t1374 1).bind fun bt1391 => (if bt1391.1 < 0 then (laws_FnExactFirstRoute.j1 kj17 a2 a3 t1368 t1371 t1380 true a0_0 a0_1 l0_2 a1_0 a1_1) else ((laws_eqIntS.f kj17 t1380 t1368).bind fun t1393 => (if t1393 = true then (laws_FnExactFirstRoute.j1 kj17 a2 a3 t1368 t1371 t1380 (t1383 != t1371) a0_0 a0_1 l0_2 a1_0 a1_1) else (laws_FnExactFirstRoute.j1 kj17 a2 a3 t1368 t1371 t1380 true a0_0 a0_1 l0_2 a1_0 a1_1))))) = some r := by rw [if_pos rfl] at H; exact H
   clear H
   have H := H1
   clear H1
   replace H := Option.bind_eq_some_iff.mp H
   obtain ⟨⟨t1391, t1392⟩, A500, H⟩ := H
   replace H : (if t1391 < 0 then (laws_FnExactFirstRoute.j1 kj17 a2 a3 t1368 t1371 t1380 true a0_0 a0_1 l0_2 a1_0 a1_1) else ((laws_eqIntS.f kj17 t1380 t1368).bind fun t1393 => (if t1393 = true then (laws_FnExactFirstRoute.j1 kj17 a2 a3 t1368 t1371 t1380 (t1383 != t1371) a0_0 a0_1 l0_2 a1_0 a1_1) else (laws_FnExactFirstRoute.j1 kj17 a2 a3 t1368 t1371 t1380 true a0_0 a0_1 l0_2 a1_0 a1_1)))) = some r := H
   have A50 := Aside0.mk A500
   clear A500
   have HC51 := Aside0.mk H
   clear H
   try go_wp2
   have n0_ := Aside0.mk (Kd.R_drew HO_10.out)
   have n1_ := Aside0.mk (Kd.R_drew HO_13.out)
   have n2_ := Aside0.mk (Kd.R_drew HO_1378002.out)
   have n3_ := Aside0.mk (blk_drew BK1358.out)
   have n4_ := Aside0.mk (blk_drew BK1359.out)
   have n5_ := Aside0.mk (blk_drew BK1377.out)
   have n6_ := Aside0.mk (below_drew1 HB.out)
   clear HO_10
   clear HO_13
   clear HO_1378002
   clear BK1358
   clear BK1359
   clear BK1377
   clear HB
   have HO_10 := n0_
   have HO_13 := n1_
   have HO_1378002 := n2_
   have BK1358 := n3_
   have BK1359 := n4_
   have BK1377 := n5_
   have HB := n6_
   clear n0_ n1_ n2_ n3_ n4_ n5_ n6_
   refine start_ (n := 5) (S := fun w' => w'.cell? ⟨gb1377, 0, none⟩ = some (.int .i64 t1372) ∧ w'.cell? ⟨gb1377, 1, none⟩ = some (.int .i64 t1373) ∧ w'.cell? ⟨gb1377, 2, none⟩ = some (.slice Ao35 t1374.length co35) ∧ w'.cell? ⟨gb1358, 0, none⟩ = some (.int .i64 a0_0) ∧ w'.cell? ⟨gb1358, 1, none⟩ = some (.int .i64 a0_1) ∧ w'.cell? ⟨gb1358, 2, none⟩ = some (.slice A0_2 l0_2.length c0_2)) (ds := []) #[false, false, false, false, false] (by kernel_rfl) rfl rfl ⟨(blk_cell BK1377.out 0).trans rfl, (blk_cell BK1377.out 1).trans rfl, (blk_cell BK1377.out 2).trans rfl, (blk_cell BK1358.out 0).trans rfl, (blk_cell BK1358.out 1).trans rfl, (blk_cell BK1358.out 2).trans rfl⟩ (fun hHeld => ?_)
   generalize wc.drew = w52 at HO_10 HO_13 HO_1378002 BK1358 BK1359 BK1377 HB hHeld ⊢
   refine take_ (i := 0) (N := some 55) (v := ?_) (a' := ?_) #[true, false, false, false, false] rfl rfl (by kernel_rfl) (fun _ _ _ h => h) (Or.inl ⟨by rfl, ?_⟩) hHeld ?_ ?_
   rotate_left
   ·rintro w' ⟨s0, s1, s2, s3, s4, s5⟩
    go_simp
    with_reducible rfl
   rotate_left
   ·simp only [Act.put, List.setIfInBounds_toArray, List.set_cons_zero, List.set_cons_succ, i64_w, i32_w]
    rfl
   refine take_ (i := 1) (N := some 56) (v := ?_) (a' := ?_) #[true, true, false, false, false] rfl rfl (by kernel_rfl) (fun _ _ _ h => h) (Or.inl ⟨by rfl, ?_⟩) hHeld ?_ ?_
   rotate_left
   ·rintro w' ⟨s0, s1, s2, s3, s4, s5⟩
    go_simp
    with_reducible rfl
   rotate_left
   ·simp only [Act.put, List.setIfInBounds_toArray, List.set_cons_zero, List.set_cons_succ, i64_w, i32_w]
    rfl
   refine one_ (i := 2) (N := some 57) #[true, true, true, false, false] rfl rfl (by kernel_rfl) (by decide) (fun K hK => ?_)
   refine goes_ Try.func17 (by kernel_rfl) rfl #[.agg #[.int .i64 a0_0, .int .i64 a0_1, .slice A0_2 l0_2.length c0_2]] (by rfl) rfl rfl zav3 ?_
   with_reducible refine (laws_toBoard.calls kj17 a0_0 a0_1 _ _ l0_2 t1385 t1386 t1387 _ ?side1 ?side2 A47.out).mono ?_
   (case side1 => exact zav12)
   (case side2 => exact HC0_2.out)
   rintro e w53 ⟨v1388, rfl, ho0, hb⟩
   refine ⟨_, rfl, ?_⟩
   have n0_ := Aside0.mk (Kd.R_elder' zav11 (Kd.R_base ho0) hb)
   have n1_ := Aside0.mk (Kd.R_elder' zav10 (Kd.R_base ho0) hb)
   have n2_ := Aside0.mk (Kd.R_elder' zav8 (Kd.R_base ho0) hb)
   have n3_ := Aside0.mk (Kd.R_lower (Kd.R_new' (Kd.R_new' (Kd.R_new' ho0 (Kd.R_lt zav11)) (Kd.R_lt zav10)) (Kd.R_lt zav8)) (below_size zav1))
   have n4_ := Aside0.mk (blk_below (g := gb1358) (o := .cells #[.int .i64 a0_0, .int .i64 a0_1, .slice A0_2 l0_2.length c0_2] 24 (0, 0)) zav2 hb)
   have n5_ := Aside0.mk (blk_below (g := gb1359) (o := .cells #[.int .i64 a1_0, .int .i64 a1_1] 26 (0, 0)) zav4 hb)
   have n6_ := Aside0.mk (blk_below (g := gb1377) (o := .cells #[.int .i64 t1372, .int .i64 t1373, .slice Ao35 t1374.length co35] 30 (0, 0)) zav7 hb)
   have n7_ := Aside0.mk (below_step zav1 hb)
   clear HO_10
   clear HO_13
   clear HO_1378002
   clear BK1358
   clear BK1359
   clear BK1377
   clear HB
   have HO_10 := n0_
   have HO_13 := n1_
   have HO_1378002 := n2_
   have HO1389 := n3_
   have BK1358 := n4_
   have BK1359 := n5_
   have BK1377 := n6_
   have HB := n7_
   clear n0_ n1_ n2_ n3_ n4_ n5_ n6_ n7_
   (try clear hb)
   (try clear hb2)
   (try clear hk)
   (try clear hi)
   (try clear ho0)
   (try clear hna_)
   (try clear hnb_)
   obtain ⟨Ao54, co54, eo54⟩ := Kd.R_slice HO1389.out
   (first | subst eo54 | (injection eo54 with f1_ f2_ f3_; have f4_ := f1_.symm; have f5_ := f3_.symm; clear f1_ f2_ f3_; subst f4_; subst f5_))
   refine hK.out _ _ ⟨(blk_cell BK1377.out 0).trans rfl, (blk_cell BK1377.out 1).trans rfl, (blk_cell BK1377.out 2).trans rfl, (blk_cell BK1358.out 0).trans rfl, (blk_cell BK1358.out 1).trans rfl, (blk_cell BK1358.out 2).trans rfl⟩ (fun hHeld => ?_)
   clear hK K
   refine norm_ (a' := ?_) ?_ ?_
   rotate_left
   ·show Act.put _ (some 57) _ = _
    simp only [Act.put, List.setIfInBounds_toArray, List.set_cons_zero, List.set_cons_succ, i64_w, i32_w]
    rfl
   refine one_ (i := 3) (N := some 58) #[true, true, true, true, false] rfl rfl (by kernel_rfl) (by decide) (fun K hK => ?_)
   refine goes_ Try.func22 (by kernel_rfl) rfl #[.agg #[.int .i64 t1372, .int .i64 t1373, .slice Ao35 t1374.length co35], .agg #[.int .i64 t1385, .int .i64 t1386, .slice Ao54 t1387.length co54]] (by rfl) rfl rfl zav3 ?_
   with_reducible refine (laws_eqBoard.calls kj17 t1372 t1373 _ _ t1374 t1385 t1386 _ _ t1387 true _ ?side1 ?side2 ?side3 ?side4 A48.out).mono ?_
   (case side1 => exact zav29)
   (case side2 => exact (Kd.R_reads' HO_1378002.out).2.1)
   (case side3 => exact zav31)
   (case side4 => exact (Kd.R_reads' HO1389.out).2.1)
   rintro e w55 ⟨rfl, hb⟩
   refine ⟨_, rfl, ?_⟩
   have n0_ := Aside0.mk (Kd.R_below zav11 hb)
   have n1_ := Aside0.mk (Kd.R_below zav10 hb)
   have n2_ := Aside0.mk (Kd.R_below zav8 hb)
   have n3_ := Aside0.mk (Kd.R_below (by (with_reducible repeat (first | apply Kd.R_alloc | apply Kd.R_drewN | apply Kd.R_drew)); exact HO1389.out) hb)
   have n4_ := Aside0.mk (blk_below (g := gb1358) (o := .cells #[.int .i64 a0_0, .int .i64 a0_1, .slice A0_2 l0_2.length c0_2] 24 (0, 0)) zav2 hb)
   have n5_ := Aside0.mk (blk_below (g := gb1359) (o := .cells #[.int .i64 a1_0, .int .i64 a1_1] 26 (0, 0)) zav4 hb)
   have n6_ := Aside0.mk (blk_below (g := gb1377) (o := .cells #[.int .i64 t1372, .int .i64 t1373, .slice Ao35 t1374.length co35] 30 (0, 0)) zav7 hb)
   have n7_ := Aside0.mk (below_step zav1 hb)
   clear HO_10
   clear HO_13
   clear HO_1378002
   clear HO1389
   clear BK1358
   clear BK1359
   clear BK1377
   clear HB
   have HO_10 := n0_
   have HO_13 := n1_
   have HO_1378002 := n2_
   have HO1389 := n3_
   have BK1358 := n4_
   have BK1359 := n5_
   have BK1377 := n6_
   have HB := n7_
   clear n0_ n1_ n2_ n3_ n4_ n5_ n6_ n7_
   (try clear hb)
   (try clear hb2)
   (try clear hk)
   (try clear hi)
   (try clear hna_)
   (try clear hnb_)
   refine hK.out _ _ ⟨(blk_cell BK1377.out 0).trans rfl, (blk_cell BK1377.out 1).trans rfl, (blk_cell BK1377.out 2).trans rfl, (blk_cell BK1358.out 0).trans rfl, (blk_cell BK1358.out 1).trans rfl, (blk_cell BK1358.out 2).trans rfl⟩ (fun hHeld => ?_)
   clear hK K
   refine norm_ (a' := ?_) ?_ ?_
   rotate_left
   ·show Act.put _ (some 58) _ = _
    simp only [Act.put, List.setIfInBounds_toArray, List.set_cons_zero, List.set_cons_succ, i64_w, i32_w]
    rfl
   refine pure_ (i := 4) (N := some 59) (v := ?_) (a' := ?_) #[true, true, true, true, true] rfl rfl (by kernel_rfl) (fun _ _ _ h => h) (Or.inl ⟨by rfl, ?_⟩) ?_ ?_
   rotate_left
   ·intro w'
    go_simp
    with_reducible rfl
   rotate_left
   ·simp only [Act.put, List.setIfInBounds_toArray, List.set_cons_zero, List.set_cons_succ, i64_w, i32_w]
    rfl
   refine done_ (by kernel_rfl) ?_
   have hnb56 := NB1377_1358.out
   have hnc56 := NB1358_1377.out
   have hnb57 := NB1377_1359.out
   have hnc57 := NB1359_1377.out
   have hcz58_0 : w55.cell? ⟨gb1377, 0, none⟩ = some (.int .i64 t1372) := (blk_cell BK1377.out 0).trans rfl
   have hcz58_1 : w55.cell? ⟨gb1377, 1, none⟩ = some (.int .i64 t1373) := (blk_cell BK1377.out 1).trans rfl
   have hcz58_2 : w55.cell? ⟨gb1377, 2, none⟩ = some (.slice Ao35 t1374.length co35) := (blk_cell BK1377.out 2).trans rfl
   have hfz58_0 := blk_frozen BK1377.out 0
   have hfz58_1 := blk_frozen BK1377.out 1
   have hfz58_2 := blk_frozen BK1377.out 2
   go_upto_region 14 with (first | ((with_reducible refine gate_callee (f := 23) rfl ?_); refine goesL_ (some 62) rfl rfl Try.func23 (by kernel_rfl) rfl #[.agg #[.int .i64 t1372, .int .i64 t1373, .slice Ao35 t1374.length co35], .int .i64 1] rfl zav3 ?_; (with_reducible refine (laws_markBoard.calls kj17 t1372 t1373 (fun k_ => some k_ = (.slice Ao35 t1374.length co35 : Value).ownBlock) (.slice Ao35 t1374.length co35) t1374 1 t1391 t1392 w _ ?side1 ?side2 A50.out).mono ?_); (case side1 => exact zav1); (case side2 => exact Kd.R_tight rfl HO_1378002.out); rintro e w59 ⟨rfl, hy0, hb, hkp⟩; refine ⟨_, rfl, ?_⟩; have n0_ := Aside0.mk (Kd.R_mono (ok' := fun k_ => some k_ ≠ (v1381 : Value).ownBlock ∧ some k_ ≠ (.slice Ao35 t1374.length co35 : Value).ownBlock ∧ some k_ ≠ (.slice Ao54 t1387.length co54 : Value).ownBlock) (Kd.R_keptB (HO_10.out) hkp (fun k_ hk_ hs_ => (hk_.1.2) hs_)) (fun k_ hk_ => ⟨hk_.1.1.1, hk_.1.1.2, hk_.1.2⟩)); have n1_ := Aside0.mk (Kd.R_mono (ok' := fun k_ => some k_ ≠ (v1369 : Value).ownBlock ∧ some k_ ≠ (.slice Ao35 t1374.length co35 : Value).ownBlock ∧ some k_ ≠ (.slice Ao54 t1387.length co54 : Value).ownBlock) (Kd.R_keptB (HO_13.out) hkp (fun k_ hk_ hs_ => (hk_.1.2) hs_)) (fun k_ hk_ => ⟨hk_.1.1.1, hk_.1.1.2, hk_.1.2⟩)); have n2_ := Aside0.mk (Kd.R_reok rfl hy0 (fun k_ e_ => HO_1378002.out.1 k_ e_)); have n3_ := Aside0.mk (blk_kept zav2 hkp (fun hs_ => (fun e_ => (Kd.R_ne HO_1378002.out BK1358.out (by decide)) e_) hs_)); have n4_ := Aside0.mk (blk_kept zav4 hkp (fun hs_ => (fun e_ => (Kd.R_ne HO_1378002.out BK1359.out (by decide)) e_) hs_)); have n5_ := Aside0.mk (blk_kept zav7 hkp (fun hs_ => (fun e_ => (Kd.R_ne HO_1378002.out BK1377.out (by decide)) e_) hs_)); have n6_ := Aside0.mk (Kd.R_mono (ok' := fun k_ => some k_ ≠ (v1369 : Value).ownBlock ∧ some k_ ≠ (v1381 : Value).ownBlock ∧ some k_ ≠ (.slice Ao35 t1374.length co35 : Value).ownBlock) (Kd.R_keptB (HO1389.out) hkp (fun k_ hk_ hs_ => (hk_.2) hs_)) (fun k_ hk_ => ⟨hk_.1.1.1.2, hk_.1.1.2, hk_.1.2⟩)); have n7_ := Aside0.mk (hb); clear HO_10; clear HO_13; clear HO_1378002; clear BK1358; clear BK1359; clear BK1377; clear HO1389; clear HB; have HO_10 := n0_; have HO_13 := n1_; have HO_1378002 := n2_; have BK1358 := n3_; have BK1359 := n4_; have BK1377 := n5_; have HO1389 := n6_; have HB := n7_; clear n0_ n1_ n2_ n3_ n4_ n5_ n6_ n7_; (try clear hb); (try clear hkp); (try clear hy0)))
   (try simp only [Act.put, List.setIfInBounds_toArray, List.set_cons_zero, List.set_cons_succ])
   go_cut [75] (fun v75 wc => ∃ (kq : Nat) (x75_50 : Bool), v75 = .bool x75_50 ∧ Aside0 (laws_FnExactFirstRoute.j1 kq a2 a3 t1368 t1371 t1380 x75_50 a0_0 a0_1 l0_2 a1_0 a1_1 = some r) ∧ Aside0 (kq ≤ kj17) ∧ Aside0 (Kd.R (Kd.int .i64) 3 wc w.heap.size (fun k_ => some k_ ≠ (v1381 : Value).ownBlock ∧ some k_ ≠ ((.slice Ao35 t1374.length co35) : Value).ownBlock) v1369 t1368) ∧ Aside0 (Kd.R (Kd.int .i64) 3 wc w.heap.size (fun k_ => some k_ ≠ (v1369 : Value).ownBlock ∧ some k_ ≠ ((.slice Ao35 t1374.length co35) : Value).ownBlock) v1381 t1380) ∧ Aside0 (Kd.R (Kd.int .i64) 3 wc w.heap.size (fun k_ => some k_ ≠ (v1369 : Value).ownBlock ∧ some k_ ≠ (v1381 : Value).ownBlock) (.slice Ao35 t1374.length co35) t1392) ∧ Aside0 (wc.heap[gb1358]? = some (.cells #[.int .i64 a0_0, .int .i64 a0_1, (.slice A0_2 l0_2.length c0_2)] 24 (0, 0))) ∧ Aside0 (wc.heap[gb1359]? = some (.cells #[.int .i64 a1_0, .int .i64 a1_1] 26 (0, 0))) ∧ Aside0 (wc.heap[gb1377]? = some (.cells #[.int .i64 t1372, .int .i64 t1373, (.slice Ao35 t1374.length co35)] 30 (0, 0))) ∧ Aside0 (Below w.heap.size w wc))
   case first =>
    have H := HC51.out
    clear HC51
    by_cases c60 : t1391 < 0
    ·rw [if_pos c60] at H
     have c60b0 : decide (t1391 < 0) = true := decide_eq_true c60
     clear c60
     (first | rw [c60b0] | (simp only [i64_w, i32_w]; rw [c60b0]) | skip)
     have H' := Aside0.mk H
     clear H
     go_wp2
     go_meet
     case rel => exact ⟨_, (true), zav24, H', ⟨by have := HJ17.out; first | omega | exact Nat.le_refl _⟩, ⟨zav23⟩, ⟨zav22⟩, ⟨zav21⟩, ⟨zav2⟩, ⟨zav4⟩, ⟨zav7⟩, ⟨zav1⟩⟩
    rw [if_neg c60] at H
    have c60b0 : decide (t1391 < 0) = false := decide_eq_false c60
    clear c60
    (first | rw [c60b0] | (simp only [i64_w, i32_w]; rw [c60b0]) | skip)
    replace H := Option.bind_eq_some_iff.mp H
    obtain ⟨t1393, A610, H⟩ := H
    replace H : (if t1393 = true then (laws_FnExactFirstRoute.j1 kj17 a2 a3 t1368 t1371 t1380 (t1383 != t1371) a0_0 a0_1 l0_2 a1_0 a1_1) else (laws_FnExactFirstRoute.j1 kj17 a2 a3 t1368 t1371 t1380 true a0_0 a0_1 l0_2 a1_0 a1_1)) = some r := H
    have A61 := Aside0.mk A610
    clear A610
    by_cases c62 : t1393 = true
    ·subst c62
     have H1 : (laws_FnExactFirstRoute.j1 kj17 a2 a3 t1368 t1371 t1380 (t1383 != t1371) a0_0 a0_1 l0_2 a1_0 a1_1) = some r := by rw [if_pos rfl] at H; exact H
     clear H
     have H := H1
     clear H1
     have H' := Aside0.mk H
     clear H
     obtain ⟨Ao63, co63, eo63⟩ := Kd.R_slice HO_13.out
     subst eo63
     obtain ⟨Ao64, co64, eo64⟩ := Kd.R_slice HO_10.out
     subst eo64
     go_wp2_with (first | (go_at_call 21; (with_reducible refine (laws_eqIntS.calls kj17 _ _ t1380 _ _ t1368 true _ ?side1 ?side2 ?side3 ?side4 A61.out).mono ?_); (case side1 => exact zav9); (case side2 => exact (Kd.R_reads' HO_13.out).2.1); (case side3 => exact zav18); (case side4 => exact (Kd.R_reads' HO_10.out).2.1); rintro e w' ⟨rfl, ⟨nd, rfl⟩⟩))
     go_meet
     case rel => exact ⟨_, ((t1383 != t1371)), zav24, H', ⟨by have := HJ17.out; first | omega | exact Nat.le_refl _⟩, ⟨zav23⟩, ⟨zav22⟩, ⟨zav21⟩, ⟨zav2⟩, ⟨zav4⟩, ⟨zav7⟩, ⟨zav1⟩⟩
    replace c62 := Bool.eq_false_iff.mpr c62
    subst c62
    have H1 : (laws_FnExactFirstRoute.j1 kj17 a2 a3 t1368 t1371 t1380 true a0_0 a0_1 l0_2 a1_0 a1_1) = some r := by rw [if_neg (show ¬ (false = true) by decide)] at H; exact H
    clear H
    have H := H1
    clear H1
    have H' := Aside0.mk H
    clear H
    obtain ⟨Ao65, co65, eo65⟩ := Kd.R_slice HO_13.out
    subst eo65
    obtain ⟨Ao66, co66, eo66⟩ := Kd.R_slice HO_10.out
    subst eo66
    go_wp2_with (first | (go_at_call 21; (with_reducible refine (laws_eqIntS.calls kj17 _ _ t1380 _ _ t1368 false _ ?side1 ?side2 ?side3 ?side4 A61.out).mono ?_); (case side1 => exact zav9); (case side2 => exact (Kd.R_reads' HO_13.out).2.1); (case side3 => exact zav18); (case side4 => exact (Kd.R_reads' HO_10.out).2.1); rintro e w' ⟨rfl, ⟨nd, rfl⟩⟩))
    go_meet
    case rel => exact ⟨_, (true), zav24, H', ⟨by have := HJ17.out; first | omega | exact Nat.le_refl _⟩, ⟨zav23⟩, ⟨zav22⟩, ⟨zav21⟩, ⟨zav2⟩, ⟨zav4⟩, ⟨zav7⟩, ⟨zav1⟩⟩
   case rest =>
    clear HC51
    try clear c1; try clear c2; try clear p2; try clear c3; try clear c4; try clear c5; try clear c6; try clear c6b0; try clear c9; try clear c13; try clear c15; try clear c17; try clear c18; try clear c21; try clear c22; try clear c23; try clear c32; try clear c33; try clear c41; try clear c44; try clear c45; try clear c46; try clear c49; try clear c56; try clear c57; try clear c60; try clear c60b0; try clear c62; try clear hcz10_0; try clear hcz10_1; try clear hcz10_2; try clear hcz22_0; try clear hcz22_1; try clear hcz22_2; try clear hcz29_0; try clear hcz29_1; try clear hcz29_2; try clear hcz34_0
    try clear hcz34_1; try clear hcz34_2; try clear hcz58_0; try clear hcz58_1; try clear hcz58_2; try clear hfz10_0; try clear hfz10_1; try clear hfz10_2; try clear hfz22_0; try clear hfz22_1; try clear hfz22_2; try clear hfz29_0; try clear hfz29_1; try clear hfz29_2; try clear hfz34_0; try clear hfz34_1; try clear hfz34_2; try clear hfz58_0; try clear hfz58_1; try clear hfz58_2; try clear p2
    obtain ⟨kq, x75_50, rfl, HA, HJ50, HO_10, HO_13, HO_1378002, BK1358, BK1359, BK1377, HB⟩ := hcut
    have hl1378002_50 := (Kd.R_reads' HO_1378002.out).1
    rw [hl1378002_50] at HO_1378002
    (try simp only [hl1378002_50])
    (try simp only [hl1378002_50] at BK1358)
    (try simp only [hl1378002_50] at BK1359)
    (try simp only [hl1378002_50] at BK1377)
    (try simp only [hl1378002_50] at HO_10)
    (try simp only [hl1378002_50] at HO_13)
    cases kq with
    | zero => exact absurd HA.out (by simp [laws_FnExactFirstRoute.j1])
    | succ kj50 =>
     have H := HA.out
     clear HA
     simp only [laws_FnExactFirstRoute.j1] at H
     by_cases c67 : x75_50 = true
     ·subst c67
      have H1 : (some false) = some r := by rw [if_pos rfl] at H; exact H
      clear H
      have H := H1
      clear H1
      obtain rfl := Option.some.inj H
      go_wp2
      go_ret
      exact ⟨zav13, zav1⟩
     replace c67 := Bool.eq_false_iff.mpr c67
     subst c67
     have H1 : ((laws_markIntS.f kj50 t1380 1).bind fun bt1394 => ((laws_heldIntS.f kj50 bt1394.2 1).bind fun t1396 => (if t1396 < 0 then (some false) else (if t1396 = bt1394.1 then ((laws_toBoard.f kj50 a0_0 a0_1 l0_2).bind fun bt1397 => ((laws_toLeaper.f a1_0 a1_1).bind fun bt1402 => ((impl_FirstRoute.f kj50 bt1397.1 bt1397.2.1 bt1397.2.2 bt1402.1 bt1402.2 a2 a3).bind fun bt1404 => ((laws_eqIntS.f kj50 bt1404.1 t1368).bind fun t1408 => (if t1408 = true then (laws_FnExactFirstRoute.j2 kj50 bt1394.2 bt1394.1 (bt1404.2 != t1371)) else (laws_FnExactFirstRoute.j2 kj50 bt1394.2 bt1394.1 true)))))) else (some false))))) = some r := by rw [if_neg (show ¬ (false = true) by decide)] at H; exact H
     clear H
     have H := H1
     clear H1
     replace H := Option.bind_eq_some_iff.mp H
     obtain ⟨⟨t1394, t1395⟩, A680, H⟩ := H
     replace H : ((laws_heldIntS.f kj50 t1395 1).bind fun t1396 => (if t1396 < 0 then (some false) else (if t1396 = t1394 then ((laws_toBoard.f kj50 a0_0 a0_1 l0_2).bind fun bt1397 => ((laws_toLeaper.f a1_0 a1_1).bind fun bt1402 => ((impl_FirstRoute.f kj50 bt1397.1 bt1397.2.1 bt1397.2.2 bt1402.1 bt1402.2 a2 a3).bind fun bt1404 => ((laws_eqIntS.f kj50 bt1404.1 t1368).bind fun t1408 => (if t1408 = true then (laws_FnExactFirstRoute.j2 kj50 t1395 t1394 (bt1404.2 != t1371)) else (laws_FnExactFirstRoute.j2 kj50 t1395 t1394 true)))))) else (some false)))) = some r := H
     have A68 := Aside0.mk A680
     clear A680
     replace H := Option.bind_eq_some_iff.mp H
     obtain ⟨t1396, A690, H⟩ := H
     replace H : (if t1396 < 0 then (some false) else (if t1396 = t1394 then ((laws_toBoard.f kj50 a0_0 a0_1 l0_2).bind fun bt1397 => ((laws_toLeaper.f a1_0 a1_1).bind fun bt1402 => ((impl_FirstRoute.f kj50 bt1397.1 bt1397.2.1 bt1397.2.2 bt1402.1 bt1402.2 a2 a3).bind fun bt1404 => ((laws_eqIntS.f kj50 bt1404.1 t1368).bind fun t1408 => (if t1408 = true then (laws_FnExactFirstRoute.j2 kj50 t1395 t1394 (bt1404.2 != t1371)) else (laws_FnExactFirstRoute.j2 kj50 t1395 t1394 true)))))) else (some false))) = some r := H
     have A69 := Aside0.mk A690
     clear A690
     by_cases c70 : t1396 < 0
     ·rw [if_pos c70] at H
      have c70b0 : decide (t1396 < 0) = true := decide_eq_true c70
      clear c70
      obtain rfl := Option.some.inj H
      obtain ⟨Ao71, co71, eo71⟩ := Kd.R_slice HO_13.out
      subst eo71
      go_wp2_with (first | ((with_reducible refine gate_callee (f := 24) rfl ?_); refine goesL_ (some 78) rfl rfl Try.func24 (by kernel_rfl) rfl #[.slice Ao71 t1380.length co71, .int .i64 1] rfl zav3 ?_; (with_reducible refine (laws_markIntS.calls kj50 (fun k_ => some k_ = (.slice Ao71 t1380.length co71 : Value).ownBlock) (.slice Ao71 t1380.length co71) t1380 1 t1394 t1395 w _ ?side1 ?side2 A68.out).mono ?_); (case side1 => exact zav1); (case side2 => exact Kd.R_tight rfl HO_13.out); rintro e w72 ⟨rfl, hy0, hb, hkp⟩; refine ⟨_, rfl, ?_⟩; have n0_ := Aside0.mk (Kd.R_mono (ok' := fun k_ => some k_ ≠ (.slice Ao71 t1380.length co71 : Value).ownBlock ∧ some k_ ≠ (.slice Ao35 t1392.length co35 : Value).ownBlock) (Kd.R_keptB (HO_10.out) hkp (fun k_ hk_ hs_ => (hk_.1) hs_)) (fun k_ hk_ => ⟨hk_.1.1, hk_.1.2⟩)); have n1_ := Aside0.mk (Kd.R_reok rfl hy0 (fun k_ e_ => HO_13.out.1 k_ e_)); have n2_ := Aside0.mk (Kd.R_mono (ok' := fun k_ => some k_ ≠ (v1369 : Value).ownBlock ∧ some k_ ≠ (.slice Ao71 t1380.length co71 : Value).ownBlock) (Kd.R_keptB (HO_1378002.out) hkp (fun k_ hk_ hs_ => (hk_.2) hs_)) (fun k_ hk_ => ⟨hk_.1.1, hk_.1.2⟩)); have n3_ := Aside0.mk (blk_kept zav2 hkp (fun hs_ => (fun e_ => (Kd.R_ne HO_13.out BK1358.out (by decide)) e_) hs_)); have n4_ := Aside0.mk (blk_kept zav4 hkp (fun hs_ => (fun e_ => (Kd.R_ne HO_13.out BK1359.out (by decide)) e_) hs_)); have n5_ := Aside0.mk (blk_kept zav7 hkp (fun hs_ => (fun e_ => (Kd.R_ne HO_13.out BK1377.out (by decide)) e_) hs_)); have n6_ := Aside0.mk (hb); clear HO_10; clear HO_13; clear HO_1378002; clear BK1358; clear BK1359; clear BK1377; clear HB; have HO_10 := n0_; have HO_13 := n1_; have HO_1378002 := n2_; have BK1358 := n3_; have BK1359 := n4_; have BK1377 := n5_; have HB := n6_; clear n0_ n1_ n2_ n3_ n4_ n5_ n6_; (try clear hb); (try clear hkp); (try clear hy0)) | ((with_reducible refine gate_callee (f := 25) rfl ?_); refine goesL_ (some 81) rfl rfl Try.func25 (by kernel_rfl) rfl #[.slice Ao71 t1395.length co71, .int .i64 1] rfl zav19 ?_; (with_reducible refine (laws_heldIntS.calls kj50 _ _ t1395 1 t1396 _ ?side1 ?side2 A69.out).mono ?_); (case side1 => exact zav9); (case side2 => exact zav26); rintro e w' ⟨rfl, ⟨nd, rfl⟩⟩; refine ⟨_, rfl, ?_⟩))
      go_ret
      exact ⟨zav13, zav1⟩
     rw [if_neg c70] at H
     have c70b0 : decide (t1396 < 0) = false := decide_eq_false c70
     clear c70
     by_cases c73 : t1396 = t1394
     rotate_left
     ·rw [if_neg c73] at H
      have c73b0 : (t1396 == t1394) = false := beq_eq_false_iff_ne.mpr c73
      have c73b1 : (t1396 != t1394) = true := bne_iff_ne.mpr c73
      obtain rfl := Option.some.inj H
      obtain ⟨Ao95, co95, eo95⟩ := Kd.R_slice HO_13.out
      subst eo95
      go_wp2_with (first | ((with_reducible refine gate_callee (f := 24) rfl ?_); refine goesL_ (some 78) rfl rfl Try.func24 (by kernel_rfl) rfl #[.slice Ao95 t1380.length co95, .int .i64 1] rfl zav3 ?_; (with_reducible refine (laws_markIntS.calls kj50 (fun k_ => some k_ = (.slice Ao95 t1380.length co95 : Value).ownBlock) (.slice Ao95 t1380.length co95) t1380 1 t1394 t1395 w _ ?side1 ?side2 A68.out).mono ?_); (case side1 => exact zav1); (case side2 => exact Kd.R_tight rfl HO_13.out); rintro e w96 ⟨rfl, hy0, hb, hkp⟩; refine ⟨_, rfl, ?_⟩; have n0_ := Aside0.mk (Kd.R_mono (ok' := fun k_ => some k_ ≠ (.slice Ao95 t1380.length co95 : Value).ownBlock ∧ some k_ ≠ (.slice Ao35 t1392.length co35 : Value).ownBlock) (Kd.R_keptB (HO_10.out) hkp (fun k_ hk_ hs_ => (hk_.1) hs_)) (fun k_ hk_ => ⟨hk_.1.1, hk_.1.2⟩)); have n1_ := Aside0.mk (Kd.R_reok rfl hy0 (fun k_ e_ => HO_13.out.1 k_ e_)); have n2_ := Aside0.mk (Kd.R_mono (ok' := fun k_ => some k_ ≠ (v1369 : Value).ownBlock ∧ some k_ ≠ (.slice Ao95 t1380.length co95 : Value).ownBlock) (Kd.R_keptB (HO_1378002.out) hkp (fun k_ hk_ hs_ => (hk_.2) hs_)) (fun k_ hk_ => ⟨hk_.1.1, hk_.1.2⟩)); have n3_ := Aside0.mk (blk_kept zav2 hkp (fun hs_ => (fun e_ => (Kd.R_ne HO_13.out BK1358.out (by decide)) e_) hs_)); have n4_ := Aside0.mk (blk_kept zav4 hkp (fun hs_ => (fun e_ => (Kd.R_ne HO_13.out BK1359.out (by decide)) e_) hs_)); have n5_ := Aside0.mk (blk_kept zav7 hkp (fun hs_ => (fun e_ => (Kd.R_ne HO_13.out BK1377.out (by decide)) e_) hs_)); have n6_ := Aside0.mk (hb); clear HO_10; clear HO_13; clear HO_1378002; clear BK1358; clear BK1359; clear BK1377; clear HB; have HO_10 := n0_; have HO_13 := n1_; have HO_1378002 := n2_; have BK1358 := n3_; have BK1359 := n4_; have BK1377 := n5_; have HB := n6_; clear n0_ n1_ n2_ n3_ n4_ n5_ n6_; (try clear hb); (try clear hkp); (try clear hy0)) | ((with_reducible refine gate_callee (f := 25) rfl ?_); refine goesL_ (some 81) rfl rfl Try.func25 (by kernel_rfl) rfl #[.slice Ao95 t1395.length co95, .int .i64 1] rfl zav19 ?_; (with_reducible refine (laws_heldIntS.calls kj50 _ _ t1395 1 t1396 _ ?side1 ?side2 A69.out).mono ?_); (case side1 => exact zav9); (case side2 => exact zav26); rintro e w' ⟨rfl, ⟨nd, rfl⟩⟩; refine ⟨_, rfl, ?_⟩))
      go_ret
      exact ⟨zav13, zav1⟩
     rw [if_pos c73] at H
     have c73b0 : (t1396 == t1394) = true := beq_iff_eq.mpr c73
     have c73b1 : (t1396 != t1394) = false := bne_eq_false_iff_eq.mpr c73
     clear c73
     replace H := Option.bind_eq_some_iff.mp H
     obtain ⟨⟨t1397, t1398, t1399⟩, A740, H⟩ := H
     replace H : ((laws_toLeaper.f a1_0 a1_1).bind fun bt1402 => ((impl_FirstRoute.f kj50 t1397 t1398 t1399 bt1402.1 bt1402.2 a2 a3).bind fun bt1404 => ((laws_eqIntS.f kj50 bt1404.1 t1368).bind fun t1408 => (if t1408 = true then (laws_FnExactFirstRoute.j2 kj50 t1395 t1394 (bt1404.2 != t1371)) else (laws_FnExactFirstRoute.j2 kj50 t1395 t1394 true))))) = some r := H
     have A74 := Aside0.mk A740
     clear A740
     replace H := Option.bind_eq_some_iff.mp H
     obtain ⟨⟨t1402, t1403⟩, A750, H⟩ := H
     replace H : ((impl_FirstRoute.f kj50 t1397 t1398 t1399 t1402 t1403 a2 a3).bind fun bt1404 => ((laws_eqIntS.f kj50 bt1404.1 t1368).bind fun t1408 => (if t1408 = true then (laws_FnExactFirstRoute.j2 kj50 t1395 t1394 (bt1404.2 != t1371)) else (laws_FnExactFirstRoute.j2 kj50 t1395 t1394 true)))) = some r := H
     have A75 := Aside0.mk A750
     clear A750
     replace H := Option.bind_eq_some_iff.mp H
     obtain ⟨⟨t1404, t1407⟩, A760, H⟩ := H
     replace H : ((laws_eqIntS.f kj50 t1404 t1368).bind fun t1408 => (if t1408 = true then (laws_FnExactFirstRoute.j2 kj50 t1395 t1394 (t1407 != t1371)) else (laws_FnExactFirstRoute.j2 kj50 t1395 t1394 true))) = some r := H
     have A76 := Aside0.mk A760
     clear A760
     have HC77 := Aside0.mk H
     clear H
     obtain ⟨Ao78, co78, eo78⟩ := Kd.R_slice HO_13.out
     subst eo78
     try go_wp2_with (first | ((with_reducible refine gate_callee (f := 24) rfl ?_); refine goesL_ (some 78) rfl rfl Try.func24 (by kernel_rfl) rfl #[.slice Ao78 t1380.length co78, .int .i64 1] rfl zav3 ?_; (with_reducible refine (laws_markIntS.calls kj50 (fun k_ => some k_ = (.slice Ao78 t1380.length co78 : Value).ownBlock) (.slice Ao78 t1380.length co78) t1380 1 t1394 t1395 w _ ?side1 ?side2 A68.out).mono ?_); (case side1 => exact zav1); (case side2 => exact Kd.R_tight rfl HO_13.out); rintro e w79 ⟨rfl, hy0, hb, hkp⟩; refine ⟨_, rfl, ?_⟩; have n0_ := Aside0.mk (Kd.R_mono (ok' := fun k_ => some k_ ≠ (.slice Ao78 t1380.length co78 : Value).ownBlock ∧ some k_ ≠ (.slice Ao35 t1392.length co35 : Value).ownBlock) (Kd.R_keptB (HO_10.out) hkp (fun k_ hk_ hs_ => (hk_.1) hs_)) (fun k_ hk_ => ⟨hk_.1.1, hk_.1.2⟩)); have n1_ := Aside0.mk (Kd.R_reok rfl hy0 (fun k_ e_ => HO_13.out.1 k_ e_)); have n2_ := Aside0.mk (Kd.R_mono (ok' := fun k_ => some k_ ≠ (v1369 : Value).ownBlock ∧ some k_ ≠ (.slice Ao78 t1380.length co78 : Value).ownBlock) (Kd.R_keptB (HO_1378002.out) hkp (fun k_ hk_ hs_ => (hk_.2) hs_)) (fun k_ hk_ => ⟨hk_.1.1, hk_.1.2⟩)); have n3_ := Aside0.mk (blk_kept zav2 hkp (fun hs_ => (fun e_ => (Kd.R_ne HO_13.out BK1358.out (by decide)) e_) hs_)); have n4_ := Aside0.mk (blk_kept zav4 hkp (fun hs_ => (fun e_ => (Kd.R_ne HO_13.out BK1359.out (by decide)) e_) hs_)); have n5_ := Aside0.mk (blk_kept zav7 hkp (fun hs_ => (fun e_ => (Kd.R_ne HO_13.out BK1377.out (by decide)) e_) hs_)); have n6_ := Aside0.mk (hb); clear HO_10; clear HO_13; clear HO_1378002; clear BK1358; clear BK1359; clear BK1377; clear HB; have HO_10 := n0_; have HO_13 := n1_; have HO_1378002 := n2_; have BK1358 := n3_; have BK1359 := n4_; have BK1377 := n5_; have HB := n6_; clear n0_ n1_ n2_ n3_ n4_ n5_ n6_; (try clear hb); (try clear hkp); (try clear hy0)) | ((with_reducible refine gate_callee (f := 25) rfl ?_); refine goesL_ (some 81) rfl rfl Try.func25 (by kernel_rfl) rfl #[.slice Ao78 t1395.length co78, .int .i64 1] rfl zav19 ?_; (with_reducible refine (laws_heldIntS.calls kj50 _ _ t1395 1 t1396 _ ?side1 ?side2 A69.out).mono ?_); (case side1 => exact zav9); (case side2 => exact zav26); rintro e w' ⟨rfl, ⟨nd, rfl⟩⟩; refine ⟨_, rfl, ?_⟩))
     (try (rw [drewN_self w79]; generalize hq_ : World.drewN w79 _ = w79; have n0_ : Aside0 (Kd.R (Kd.int .i64) 3 w79 w.heap.size (fun k_ => (some k_ ≠ (.slice Ao78 t1380.length co78 : Value).ownBlock ∧ some k_ ≠ (.slice Ao35 t1392.length co35 : Value).ownBlock)) v1369 t1368) := ⟨by rw [← hq_]; exact zav11⟩; have n1_ : Aside0 (Kd.R (Kd.int .i64) 3 w79 w.heap.size (fun k_ => (some k_ ≠ (v1369 : Value).ownBlock ∧ some k_ ≠ (.slice Ao35 t1392.length co35 : Value).ownBlock)) (.slice Ao78 t1380.length co78) t1395) := ⟨by rw [← hq_]; exact zav10⟩; have n2_ : Aside0 (Kd.R (Kd.int .i64) 3 w79 w.heap.size (fun k_ => (some k_ ≠ (v1369 : Value).ownBlock ∧ some k_ ≠ (.slice Ao78 t1380.length co78 : Value).ownBlock)) (.slice Ao35 t1392.length co35) t1392) := ⟨by rw [← hq_]; exact zav8⟩; have n3_ : Aside0 (w79.heap[gb1358]? = some (.cells #[.int .i64 a0_0, .int .i64 a0_1, .slice A0_2 l0_2.length c0_2] 24 (0, 0))) := ⟨by rw [← hq_]; exact zav2⟩; have n4_ : Aside0 (w79.heap[gb1359]? = some (.cells #[.int .i64 a1_0, .int .i64 a1_1] 26 (0, 0))) := ⟨by rw [← hq_]; exact zav4⟩; have n5_ : Aside0 (w79.heap[gb1377]? = some (.cells #[.int .i64 t1372, .int .i64 t1373, .slice Ao35 t1392.length co35] 30 (0, 0))) := ⟨by rw [← hq_]; exact zav7⟩; have n6_ : Aside0 (Below w.heap.size w w79) := ⟨by rw [← hq_]; exact zav1⟩; clear HO_10 HO_13 HO_1378002 BK1358 BK1359 BK1377 HB hq_; have HO_10 := n0_; have HO_13 := n1_; have HO_1378002 := n2_; have BK1358 := n3_; have BK1359 := n4_; have BK1377 := n5_; have HB := n6_; clear n0_ n1_ n2_ n3_ n4_ n5_ n6_))
     have n0_ := Aside0.mk (Kd.R_drew HO_10.out)
     have n1_ := Aside0.mk (Kd.R_drew HO_13.out)
     have n2_ := Aside0.mk (Kd.R_drew HO_1378002.out)
     have n3_ := Aside0.mk (blk_drew BK1358.out)
     have n4_ := Aside0.mk (blk_drew BK1359.out)
     have n5_ := Aside0.mk (blk_drew BK1377.out)
     have n6_ := Aside0.mk (below_drew1 HB.out)
     clear HO_10
     clear HO_13
     clear HO_1378002
     clear BK1358
     clear BK1359
     clear BK1377
     clear HB
     have HO_10 := n0_
     have HO_13 := n1_
     have HO_1378002 := n2_
     have BK1358 := n3_
     have BK1359 := n4_
     have BK1377 := n5_
     have HB := n6_
     clear n0_ n1_ n2_ n3_ n4_ n5_ n6_
     refine start_ (n := 12) (S := fun w' => w'.cell? ⟨gb1358, 0, none⟩ = some (.int .i64 a0_0) ∧ w'.cell? ⟨gb1358, 1, none⟩ = some (.int .i64 a0_1) ∧ w'.cell? ⟨gb1358, 2, none⟩ = some (.slice A0_2 l0_2.length c0_2) ∧ w'.cell? ⟨gb1359, 0, none⟩ = some (.int .i64 a1_0) ∧ w'.cell? ⟨gb1359, 1, none⟩ = some (.int .i64 a1_1)) (ds := []) #[false, false, false, false, false, false, false, false, false, false, false, false] (by kernel_rfl) rfl rfl ⟨(blk_cell BK1358.out 0).trans rfl, (blk_cell BK1358.out 1).trans rfl, (blk_cell BK1358.out 2).trans rfl, (blk_cell BK1359.out 0).trans rfl, (blk_cell BK1359.out 1).trans rfl⟩ (fun hHeld => ?_); refine with_tabW laws_FnExactFirstRoute.tab24 laws_FnExactFirstRoute.bits24 (fun HT_ HW_ => ?_)
     generalize w79.drew = w80 at HO_10 HO_13 HO_1378002 BK1358 BK1359 BK1377 HB hHeld ⊢
     refine pure_ (i := 4) (N := some 92) (v := ?_) (a' := ?_) #[false, false, false, false, true, false, false, false, false, false, false, false] rfl rfl (any_of HT_.out (by kernel_rfl)) (fun _ _ _ h => h) (Or.inl ⟨by rfl, ?_⟩) ?_ ?_
     rotate_left
     ·intro w'
      go_simp
      with_reducible rfl
     rotate_left
     ·simp only [Act.put, List.setIfInBounds_toArray, List.set_cons_zero, List.set_cons_succ, i64_w, i32_w]
      rfl
     refine pure_ (i := 5) (N := some 93) (v := ?_) (a' := ?_) #[false, false, false, false, true, true, false, false, false, false, false, false] rfl rfl (any_of HT_.out (by kernel_rfl)) (fun _ _ _ h => h) (Or.inl ⟨by rfl, ?_⟩) ?_ ?_
     rotate_left
     ·intro w'
      go_simp
      with_reducible rfl
     rotate_left
     ·simp only [Act.put, List.setIfInBounds_toArray, List.set_cons_zero, List.set_cons_succ, i64_w, i32_w]
      rfl
     refine take_ (i := 0) (N := some 88) (v := ?_) (a' := ?_) #[true, false, false, false, true, true, false, false, false, false, false, false] rfl rfl (take_ofW HT_.out HW_.out (by kernel_rfl)) (fun _ _ _ h => h) (Or.inl ⟨by rfl, ?_⟩) hHeld ?_ ?_
     rotate_left
     ·rintro w' ⟨s0, s1, s2, s3, s4⟩
      go_simp
      with_reducible rfl
     rotate_left
     ·simp only [Act.put, List.setIfInBounds_toArray, List.set_cons_zero, List.set_cons_succ, i64_w, i32_w]
      rfl
     refine take_ (i := 2) (N := some 90) (v := ?_) (a' := ?_) #[true, false, true, false, true, true, false, false, false, false, false, false] rfl rfl (take_ofW HT_.out HW_.out (by kernel_rfl)) (fun _ _ _ h => h) (Or.inl ⟨by rfl, ?_⟩) hHeld ?_ ?_
     rotate_left
     ·rintro w' ⟨s0, s1, s2, s3, s4⟩
      go_simp
      with_reducible rfl
     rotate_left
     ·simp only [Act.put, List.setIfInBounds_toArray, List.set_cons_zero, List.set_cons_succ, i64_w, i32_w]
      rfl
     refine one_ (i := 1) (N := some 89) #[true, true, true, false, true, true, false, false, false, false, false, false] rfl rfl (one_of HT_.out (by kernel_rfl)) (by decide) (fun K hK => ?_)
     refine goes_ Try.func17 (by kernel_rfl) rfl #[.agg #[.int .i64 a0_0, .int .i64 a0_1, .slice A0_2 l0_2.length c0_2]] (by rfl) rfl rfl zav3 ?_
     with_reducible refine (laws_toBoard.calls kj50 a0_0 a0_1 _ _ l0_2 t1397 t1398 t1399 _ ?side1 ?side2 A74.out).mono ?_
     (case side1 => exact zav12)
     (case side2 => exact HC0_2.out)
     rintro e w81 ⟨v1400, rfl, ho0, hb⟩
     refine ⟨_, rfl, ?_⟩
     have n0_ := Aside0.mk (Kd.R_elder' zav11 (Kd.R_base ho0) hb)
     have n1_ := Aside0.mk (Kd.R_elder' zav10 (Kd.R_base ho0) hb)
     have n2_ := Aside0.mk (Kd.R_elder' zav8 (Kd.R_base ho0) hb)
     have n3_ := Aside0.mk (Kd.R_lower (Kd.R_new' (Kd.R_new' (Kd.R_new' ho0 (Kd.R_lt zav11)) (Kd.R_lt zav10)) (Kd.R_lt zav8)) (below_size zav1))
     have n4_ := Aside0.mk (blk_below (g := gb1358) (o := .cells #[.int .i64 a0_0, .int .i64 a0_1, .slice A0_2 l0_2.length c0_2] 24 (0, 0)) zav2 hb)
     have n5_ := Aside0.mk (blk_below (g := gb1359) (o := .cells #[.int .i64 a1_0, .int .i64 a1_1] 26 (0, 0)) zav4 hb)
     have n6_ := Aside0.mk (blk_below (g := gb1377) (o := .cells #[.int .i64 t1372, .int .i64 t1373, .slice Ao35 t1392.length co35] 30 (0, 0)) zav7 hb)
     have n7_ := Aside0.mk (below_step zav1 hb)
     clear HO_10
     clear HO_13
     clear HO_1378002
     clear BK1358
     clear BK1359
     clear BK1377
     clear HB
     have HO_10 := n0_
     have HO_13 := n1_
     have HO_1378002 := n2_
     have HO1401 := n3_
     have BK1358 := n4_
     have BK1359 := n5_
     have BK1377 := n6_
     have HB := n7_
     clear n0_ n1_ n2_ n3_ n4_ n5_ n6_ n7_
     (try clear hb)
     (try clear hb2)
     (try clear hk)
     (try clear hi)
     (try clear ho0)
     (try clear hna_)
     (try clear hnb_)
     refine hK.out _ _ ⟨(blk_cell BK1358.out 0).trans rfl, (blk_cell BK1358.out 1).trans rfl, (blk_cell BK1358.out 2).trans rfl, (blk_cell BK1359.out 0).trans rfl, (blk_cell BK1359.out 1).trans rfl⟩ (fun hHeld => ?_)
     clear hK K
     refine norm_ (a' := ?_) ?_ ?_
     rotate_left
     ·show Act.put _ (some 89) _ = _
      simp only [Act.put, List.setIfInBounds_toArray, List.set_cons_zero, List.set_cons_succ, i64_w, i32_w]
      rfl
     refine one_ (i := 3) (N := some 91) #[true, true, true, true, true, true, false, false, false, false, false, false] rfl rfl (one_of HT_.out (by kernel_rfl)) (by decide) (fun K hK => ?_)
     refine goes_ Try.func18 (by kernel_rfl) rfl #[.agg #[.int .i64 a1_0, .int .i64 a1_1]] (by rfl) rfl rfl zav3 ?_
     with_reducible refine (laws_toLeaper.calls a1_0 a1_1 t1402 t1403 _ A75.out).mono ?_
     rintro e w82 ⟨rfl, hb⟩
     refine ⟨_, rfl, ?_⟩
     have n0_ := Aside0.mk (Kd.R_below zav11 hb)
     have n1_ := Aside0.mk (Kd.R_below zav10 hb)
     have n2_ := Aside0.mk (Kd.R_below zav8 hb)
     have n3_ := Aside0.mk (Kd.R_below zav25 hb)
     have n4_ := Aside0.mk (blk_below (g := gb1358) (o := .cells #[.int .i64 a0_0, .int .i64 a0_1, .slice A0_2 l0_2.length c0_2] 24 (0, 0)) zav2 hb)
     have n5_ := Aside0.mk (blk_below (g := gb1359) (o := .cells #[.int .i64 a1_0, .int .i64 a1_1] 26 (0, 0)) zav4 hb)
     have n6_ := Aside0.mk (blk_below (g := gb1377) (o := .cells #[.int .i64 t1372, .int .i64 t1373, .slice Ao35 t1392.length co35] 30 (0, 0)) zav7 hb)
     have n7_ := Aside0.mk (below_step zav1 hb)
     clear HO_10
     clear HO_13
     clear HO_1378002
     clear HO1401
     clear BK1358
     clear BK1359
     clear BK1377
     clear HB
     have HO_10 := n0_
     have HO_13 := n1_
     have HO_1378002 := n2_
     have HO1401 := n3_
     have BK1358 := n4_
     have BK1359 := n5_
     have BK1377 := n6_
     have HB := n7_
     clear n0_ n1_ n2_ n3_ n4_ n5_ n6_ n7_
     (try clear hb)
     (try clear hb2)
     (try clear hk)
     (try clear hi)
     (try clear hna_)
     (try clear hnb_)
     obtain ⟨Ao83, co83, eo83⟩ := Kd.R_slice HO1401.out
     (first | subst eo83 | (injection eo83 with f1_ f2_ f3_; have f4_ := f1_.symm; have f5_ := f3_.symm; clear f1_ f2_ f3_; subst f4_; subst f5_))
     refine hK.out _ _ ⟨(blk_cell BK1358.out 0).trans rfl, (blk_cell BK1358.out 1).trans rfl, (blk_cell BK1358.out 2).trans rfl, (blk_cell BK1359.out 0).trans rfl, (blk_cell BK1359.out 1).trans rfl⟩ (fun hHeld => ?_)
     clear hK K
     refine norm_ (a' := ?_) ?_ ?_
     rotate_left
     ·show Act.put _ (some 91) _ = _
      simp only [Act.put, List.setIfInBounds_toArray, List.set_cons_zero, List.set_cons_succ, i64_w, i32_w]
      rfl
     refine one_ (i := 6) (N := some 94) #[true, true, true, true, true, true, true, false, false, false, false, false] rfl rfl (one_of HT_.out (by kernel_rfl)) (by decide) (fun K hK => ?_)
     refine goes_ Try.func45 (by kernel_rfl) rfl #[.agg #[.int .i64 t1397, .int .i64 t1398, .slice Ao83 t1399.length co83], .agg #[.int .i64 t1402, .int .i64 t1403], .int .i64 a2, .int .i64 a3] (by rfl) rfl rfl zav3 ?_
     with_reducible refine (impl_FirstRoute.calls kj50 t1397 t1398 _ _ t1399 t1402 t1403 a2 a3 t1404 t1407 _ ?side1 ?side2 A76.out).mono ?_
     (case side1 => repeat (first | exact (Kd.R_reads' HO1401.out).2.2 | (with_reducible refine Kd.C_alloc ?_ _) | (with_reducible refine Kd.C_drewN ?_ _) | (with_reducible refine Kd.C_drew ?_)))
     (case side2 => exact (Kd.R_reads' HO1401.out).2.1)
     rintro e w84 ⟨v1405, rfl, ho0, hb⟩
     refine ⟨_, rfl, ?_⟩
     have n0_ := Aside0.mk (Kd.R_elder' zav11 (Kd.R_base ho0) hb)
     have n1_ := Aside0.mk (Kd.R_elder' zav10 (Kd.R_base ho0) hb)
     have n2_ := Aside0.mk (Kd.R_elder' zav8 (Kd.R_base ho0) hb)
     have n3_ := Aside0.mk (Kd.R_elder' zav25 (Kd.R_base ho0) hb)
     have n4_ := Aside0.mk (Kd.R_lower (Kd.R_new' (Kd.R_new' (Kd.R_new' (Kd.R_new' ho0 (Kd.R_lt zav11)) (Kd.R_lt zav10)) (Kd.R_lt zav8)) (Kd.R_lt zav25)) (below_size zav1))
     have n5_ := Aside0.mk (blk_below (g := gb1358) (o := .cells #[.int .i64 a0_0, .int .i64 a0_1, .slice A0_2 l0_2.length c0_2] 24 (0, 0)) zav2 hb)
     have n6_ := Aside0.mk (blk_below (g := gb1359) (o := .cells #[.int .i64 a1_0, .int .i64 a1_1] 26 (0, 0)) zav4 hb)
     have n7_ := Aside0.mk (blk_below (g := gb1377) (o := .cells #[.int .i64 t1372, .int .i64 t1373, .slice Ao35 t1392.length co35] 30 (0, 0)) zav7 hb)
     have n8_ := Aside0.mk (below_step zav1 hb)
     clear HO_10
     clear HO_13
     clear HO_1378002
     clear HO1401
     clear BK1358
     clear BK1359
     clear BK1377
     clear HB
     have HO_10 := n0_
     have HO_13 := n1_
     have HO_1378002 := n2_
     have HO1401 := n3_
     have HO1406 := n4_
     have BK1358 := n5_
     have BK1359 := n6_
     have BK1377 := n7_
     have HB := n8_
     clear n0_ n1_ n2_ n3_ n4_ n5_ n6_ n7_ n8_
     (try clear hb)
     (try clear hb2)
     (try clear hk)
     (try clear hi)
     (try clear ho0)
     (try clear hna_)
     (try clear hnb_)
     refine hK.out _ _ ⟨(blk_cell BK1358.out 0).trans rfl, (blk_cell BK1358.out 1).trans rfl, (blk_cell BK1358.out 2).trans rfl, (blk_cell BK1359.out 0).trans rfl, (blk_cell BK1359.out 1).trans rfl⟩ (fun hHeld => ?_)
     clear hK K
     refine norm_ (a' := ?_) ?_ ?_
     rotate_left
     ·show Act.put _ (some 94) _ = _
      simp only [Act.put, List.setIfInBounds_toArray, List.set_cons_zero, List.set_cons_succ, i64_w, i32_w]
      rfl
     refine pure_ (i := 7) (N := some 87) (v := ?_) (a' := ?_) #[true, true, true, true, true, true, true, true, false, false, false, false] rfl rfl (any_of HT_.out (by kernel_rfl)) (fun _ _ _ h => h) (Or.inl ⟨by rfl, ?_⟩) ?_ ?_
     rotate_left
     ·intro w'
      go_simp
      with_reducible rfl
     rotate_left
     ·simp only [Act.put, List.setIfInBounds_toArray, List.set_cons_zero, List.set_cons_succ, i64_w, i32_w]
      rfl
     refine pure_ (i := 8) (N := some 95) (v := ?_) (a' := ?_) #[true, true, true, true, true, true, true, true, true, false, false, false] rfl rfl (any_of HT_.out (by kernel_rfl)) (fun _ _ _ h => h) (Or.inl ⟨by rfl, ?_⟩) ?_ ?_
     rotate_left
     ·intro w'
      go_simp
      with_reducible rfl
     rotate_left
     ·simp only [Act.put, List.setIfInBounds_toArray, List.set_cons_zero, List.set_cons_succ, i64_w, i32_w]
      rfl
     refine pure_ (i := 9) (N := some 96) (v := ?_) (a' := ?_) #[true, true, true, true, true, true, true, true, true, true, false, false] rfl rfl (any_of HT_.out (by kernel_rfl)) (fun _ _ _ h => h) (Or.inl ⟨by rfl, ?_⟩) ?_ ?_
     rotate_left
     ·intro w'
      go_simp
      with_reducible rfl
     rotate_left
     ·simp only [Act.put, List.setIfInBounds_toArray, List.set_cons_zero, List.set_cons_succ, i64_w, i32_w]
      rfl
     refine pure_ (i := 10) (N := some 18) (v := ?_) (a' := ?_) #[true, true, true, true, true, true, true, true, true, true, true, false] rfl rfl (any_of HT_.out (by kernel_rfl)) (fun _ _ _ h => h) (Or.inl ⟨by rfl, ?_⟩) ?_ ?_
     rotate_left
     ·intro w'
      go_simp
      with_reducible rfl
     rotate_left
     ·simp only [Act.put, List.setIfInBounds_toArray, List.set_cons_zero, List.set_cons_succ, i64_w, i32_w]
      rfl
     refine pure_ (i := 11) (N := some 19) (v := ?_) (a' := ?_) #[true, true, true, true, true, true, true, true, true, true, true, true] rfl rfl (any_of HT_.out (by kernel_rfl)) (fun _ _ _ h => h) (Or.inl ⟨by rfl, ?_⟩) ?_ ?_
     rotate_left
     ·intro w'
      go_simp
      with_reducible rfl
     rotate_left
     ·simp only [Act.put, List.setIfInBounds_toArray, List.set_cons_zero, List.set_cons_succ, i64_w, i32_w]
      rfl
     refine done_ (done_of HT_.out (by kernel_rfl)) ?_
     go_upto_region 25 with (fail)
     go_cut [105] (fun v105 wc => ∃ (kq : Nat) (x105_76 : Bool), v105 = .bool x105_76 ∧ Aside0 (laws_FnExactFirstRoute.j2 kq t1395 t1394 x105_76 = some r) ∧ Aside0 (kq ≤ kj50) ∧ Aside0 (Kd.R (Kd.int .i64) 3 wc w.heap.size (fun k_ => some k_ ≠ ((.slice Ao35 t1392.length co35) : Value).ownBlock) (.slice Ao78 t1380.length co78) t1395) ∧ Aside0 (Kd.R (Kd.int .i64) 3 wc w.heap.size (fun k_ => some k_ ≠ ((.slice Ao78 t1380.length co78) : Value).ownBlock) (.slice Ao35 t1392.length co35) t1392) ∧ Aside0 (wc.heap[gb1358]? = some (.cells #[.int .i64 a0_0, .int .i64 a0_1, (.slice A0_2 l0_2.length c0_2)] 24 (0, 0))) ∧ Aside0 (wc.heap[gb1359]? = some (.cells #[.int .i64 a1_0, .int .i64 a1_1] 26 (0, 0))) ∧ Aside0 (wc.heap[gb1377]? = some (.cells #[.int .i64 t1372, .int .i64 t1373, (.slice Ao35 t1392.length co35)] 30 (0, 0))) ∧ Aside0 (Below w.heap.size w wc))
     case first =>
      have H := HC77.out
      clear HC77
      replace H := Option.bind_eq_some_iff.mp H
      obtain ⟨t1408, A850, H⟩ := H
      replace H : (if t1408 = true then (laws_FnExactFirstRoute.j2 kj50 t1395 t1394 (t1407 != t1371)) else (laws_FnExactFirstRoute.j2 kj50 t1395 t1394 true)) = some r := H
      have A85 := Aside0.mk A850
      clear A850
      by_cases c86 : t1408 = true
      ·subst c86
       have H1 : (laws_FnExactFirstRoute.j2 kj50 t1395 t1394 (t1407 != t1371)) = some r := by rw [if_pos rfl] at H; exact H
       clear H
       have H := H1
       clear H1
       have H' := Aside0.mk H
       clear H
       obtain ⟨Ao87, co87, eo87⟩ := Kd.R_slice HO1406.out
       subst eo87
       obtain ⟨Ao88, co88, eo88⟩ := Kd.R_slice HO_10.out
       subst eo88
       go_wp2_with (first | ((with_reducible refine gate_callee (f := 21) rfl ?_); refine goesL_ (some 99) rfl rfl Try.func21 (by kernel_rfl) rfl #[.slice Ao87 t1404.length co87, .slice Ao88 t1368.length co88] rfl zav3 ?_; (with_reducible refine (laws_eqIntS.calls kj50 _ _ t1404 _ _ t1368 true _ ?side1 ?side2 ?side3 ?side4 A85.out).mono ?_); (case side1 => exact zav30); (case side2 => exact (Kd.R_reads' HO1406.out).2.1); (case side3 => exact zav18); (case side4 => exact (Kd.R_reads' HO_10.out).2.1); rintro e w' ⟨rfl, ⟨nd, rfl⟩⟩; refine ⟨_, rfl, ?_⟩))
       go_meet
       case rel => exact ⟨_, ((t1407 != t1371)), zav24, H', ⟨by have := HJ17.out; have := HJ50.out; first | omega | exact Nat.le_refl _⟩, ⟨zav28⟩, ⟨zav27⟩, ⟨zav36⟩, ⟨zav35⟩, ⟨zav34⟩, ⟨zav1⟩⟩
      replace c86 := Bool.eq_false_iff.mpr c86
      subst c86
      have H1 : (laws_FnExactFirstRoute.j2 kj50 t1395 t1394 true) = some r := by rw [if_neg (show ¬ (false = true) by decide)] at H; exact H
      clear H
      have H := H1
      clear H1
      have H' := Aside0.mk H
      clear H
      obtain ⟨Ao89, co89, eo89⟩ := Kd.R_slice HO1406.out
      subst eo89
      obtain ⟨Ao90, co90, eo90⟩ := Kd.R_slice HO_10.out
      subst eo90
      go_wp2_with (first | ((with_reducible refine gate_callee (f := 21) rfl ?_); refine goesL_ (some 99) rfl rfl Try.func21 (by kernel_rfl) rfl #[.slice Ao89 t1404.length co89, .slice Ao90 t1368.length co90] rfl zav3 ?_; (with_reducible refine (laws_eqIntS.calls kj50 _ _ t1404 _ _ t1368 false _ ?side1 ?side2 ?side3 ?side4 A85.out).mono ?_); (case side1 => exact zav30); (case side2 => exact (Kd.R_reads' HO1406.out).2.1); (case side3 => exact zav18); (case side4 => exact (Kd.R_reads' HO_10.out).2.1); rintro e w' ⟨rfl, ⟨nd, rfl⟩⟩; refine ⟨_, rfl, ?_⟩))
      go_meet
      case rel => exact ⟨_, (true), zav24, H', ⟨by have := HJ17.out; have := HJ50.out; first | omega | exact Nat.le_refl _⟩, ⟨zav28⟩, ⟨zav27⟩, ⟨zav36⟩, ⟨zav35⟩, ⟨zav34⟩, ⟨zav1⟩⟩
     case rest =>
      clear HC77
      try clear c1; try clear c2; try clear p2; try clear c3; try clear c4; try clear c5; try clear c6; try clear c6b0; try clear c7; try clear c8; try clear c9; try clear c13; try clear c15; try clear c17; try clear c18; try clear c21; try clear c22; try clear c23; try clear c24; try clear c25; try clear c32; try clear c33; try clear c41; try clear c44; try clear c45; try clear c46; try clear c49; try clear c56; try clear c57; try clear c60; try clear c60b0; try clear c62; try clear c67; try clear c70; try clear c70b0; try clear c73; try clear c73b0; try clear c73b1; try clear c86; try clear hcz10_0
      try clear hcz10_1; try clear hcz10_2; try clear hcz22_0; try clear hcz22_1; try clear hcz22_2; try clear hcz29_0; try clear hcz29_1; try clear hcz29_2; try clear hcz34_0; try clear hcz34_1; try clear hcz34_2; try clear hcz58_0; try clear hcz58_1; try clear hcz58_2; try clear hfz10_0; try clear hfz10_1; try clear hfz10_2; try clear hfz22_0; try clear hfz22_1; try clear hfz22_2; try clear hfz29_0; try clear hfz29_1; try clear hfz29_2; try clear hfz34_0; try clear hfz34_1; try clear hfz34_2; try clear hfz58_0; try clear hfz58_1; try clear hfz58_2; try clear p2
      obtain ⟨kq, x105_76, rfl, HA, HJ76, HO_13, HO_1378002, BK1358, BK1359, BK1377, HB⟩ := hcut
      have hl13_76 := (Kd.R_reads' HO_13.out).1
      rw [hl13_76] at HO_13
      (try simp only [hl13_76])
      (try simp only [hl13_76] at BK1358)
      (try simp only [hl13_76] at BK1359)
      (try simp only [hl13_76] at BK1377)
      (try simp only [hl13_76] at HO_1378002)
      cases kq with
      | zero => exact absurd HA.out (by simp [laws_FnExactFirstRoute.j2])
      | succ kj76 =>
       have H := HA.out
       clear HA
       simp only [laws_FnExactFirstRoute.j2] at H
       by_cases c91 : x105_76 = true
       ·subst c91
        have H1 : (some false) = some r := by rw [if_pos rfl] at H; exact H
        clear H
        have H := H1
        clear H1
        obtain rfl := Option.some.inj H
        go_wp2
        go_ret
        exact ⟨zav13, zav1⟩
       replace c91 := Bool.eq_false_iff.mpr c91
       subst c91
       have H1 : ((laws_heldIntS.f kj76 t1395 1).bind fun t1409 => (if t1409 < 0 then (some false) else (if t1409 = t1394 then (some true) else (some false)))) = some r := by rw [if_neg (show ¬ (false = true) by decide)] at H; exact H
       clear H
       have H := H1
       clear H1
       replace H := Option.bind_eq_some_iff.mp H
       obtain ⟨t1409, A920, H⟩ := H
       replace H : (if t1409 < 0 then (some false) else (if t1409 = t1394 then (some true) else (some false))) = some r := H
       have A92 := Aside0.mk A920
       clear A920
       by_cases c93 : t1409 < 0
       ·rw [if_pos c93] at H
        have c93b0 : decide (t1409 < 0) = true := decide_eq_true c93
        clear c93
        obtain rfl := Option.some.inj H
        go_wp2_with (first | ((with_reducible refine gate_callee (f := 25) rfl ?_); refine goesL_ (some 108) rfl rfl Try.func25 (by kernel_rfl) rfl #[.slice Ao78 t1395.length co78, .int .i64 1] rfl zav3 ?_; (with_reducible refine (laws_heldIntS.calls kj76 _ _ t1395 1 t1409 _ ?side1 ?side2 A92.out).mono ?_); (case side1 => exact zav9); (case side2 => exact (Kd.R_reads' HO_13.out).2.1); rintro e w' ⟨rfl, ⟨nd, rfl⟩⟩; refine ⟨_, rfl, ?_⟩))
        go_ret
        exact ⟨zav13, zav1⟩
       rw [if_neg c93] at H
       have c93b0 : decide (t1409 < 0) = false := decide_eq_false c93
       clear c93
       by_cases c94 : t1409 = t1394
       rotate_left
       ·rw [if_neg c94] at H
        have c94b0 : (t1409 == t1394) = false := beq_eq_false_iff_ne.mpr c94
        have c94b1 : (t1409 != t1394) = true := bne_iff_ne.mpr c94
        obtain rfl := Option.some.inj H
        go_wp2_with (first | ((with_reducible refine gate_callee (f := 25) rfl ?_); refine goesL_ (some 108) rfl rfl Try.func25 (by kernel_rfl) rfl #[.slice Ao78 t1395.length co78, .int .i64 1] rfl zav3 ?_; (with_reducible refine (laws_heldIntS.calls kj76 _ _ t1395 1 t1409 _ ?side1 ?side2 A92.out).mono ?_); (case side1 => exact zav9); (case side2 => exact (Kd.R_reads' HO_13.out).2.1); rintro e w' ⟨rfl, ⟨nd, rfl⟩⟩; refine ⟨_, rfl, ?_⟩))
        go_ret
        exact ⟨zav13, zav1⟩
       rw [if_pos c94] at H
       have c94b0 : (t1409 == t1394) = true := beq_iff_eq.mpr c94
       have c94b1 : (t1409 != t1394) = false := bne_eq_false_iff_eq.mpr c94
       clear c94
       obtain rfl := Option.some.inj H
       go_wp2_with (first | ((with_reducible refine gate_callee (f := 25) rfl ?_); refine goesL_ (some 108) rfl rfl Try.func25 (by kernel_rfl) rfl #[.slice Ao78 t1395.length co78, .int .i64 1] rfl zav3 ?_; (with_reducible refine (laws_heldIntS.calls kj76 _ _ t1395 1 t1409 _ ?side1 ?side2 A92.out).mono ?_); (case side1 => exact zav9); (case side2 => exact (Kd.R_reads' HO_13.out).2.1); rintro e w' ⟨rfl, ⟨nd, rfl⟩⟩; refine ⟨_, rfl, ?_⟩))
       go_ret
       exact ⟨zav13, zav1⟩

end Go.Proofs.Ytjeongckkfkehaa.Q

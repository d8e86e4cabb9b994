/- Written by a program of this session: functions of the translation as plain Lean functions, each with a proof that the call does what the plain function says; the conditions stand in each theorem. -/
import Derived.Test.YtjeongckkfkehaaQ0
import Derived.Test.YtjeongckkfkehaaQ1
import Derived.Test.YtjeongckkfkehaaQ2
import Derived.Test.YtjeongckkfkehaaQ5
import Derived.Test.YtjeongckkfkehaaQ11
import Derived.Test.YtjeongckkfkehaaQ49
namespace Go.Proofs.Ytjeongckkfkehaa.Q
open Go.RowKit Go.Proofs.YtjeongckkfkehaaW.PrintWords Go.Proofs.YtjeongckkfkehaaW.PrintLast Go.Proofs.YtjeongckkfkehaaW.PrintMore
attribute [local go_sem] max2_int min2_int max_two min_two max_three min_three max_four min_four   -- for this text's walks alone
set_option linter.unusedVariables false
set_option linter.unusedSimpArgs false

theorem zay1 {p : Prop} (h : p := by repeat (first | (with_reducible first | exact HB.out | apply below_alloc | apply pw_below_drewN | apply below_drew1 | refine below_set ?_ GE1459.out | refine below_set ?_ GE1460.out | refine below_set ?_ GE1481.out) | exact HB.out)) : p := h
theorem zay2 {p : Prop} (h : p := by first | exact BK1459.out | ((with_reducible repeat (first | refine blk_drewN ?_ _ | refine blk_drew ?_ | refine blk_alloc ?_ _)); exact BK1459.out)) : p := h
theorem zay3 {p : Prop} (h : p := by (try simp only [List.map_toArray, List.map_cons, List.map_nil]); first | done | rfl | (simp only [List.length_drop, List.length_take]; rfl)) : p := h
theorem zay4 {p : Prop} (h : p := by first | exact BK1460.out | ((with_reducible repeat (first | refine blk_drewN ?_ _ | refine blk_drew ?_ | refine blk_alloc ?_ _)); exact BK1460.out)) : p := h
theorem zay6 {p : Prop} (h : p := by repeat (first | (with_reducible first | exact HB.out | apply below_alloc | apply pw_below_drewN | apply below_drew1 | refine below_set ?_ GE1459.out | refine below_set ?_ GE1460.out) | exact HB.out)) : p := h
theorem zay7 {p : Prop} (h : p := by first | exact BK1481.out | ((with_reducible repeat (first | refine blk_drewN ?_ _ | refine blk_drew ?_ | refine blk_alloc ?_ _)); exact BK1481.out)) : p := h
theorem zay8 {p : Prop} (h : p := by first | exact HO_1482002.out | ((with_reducible repeat (first | apply Kd.R_alloc | apply Kd.R_drewN | apply Kd.R_drew)); exact HO_1482002.out)) : p := h
theorem zay9 {p : Prop} (h : p := by first | exact HO_14.out | ((with_reducible repeat (first | apply Kd.R_alloc | apply Kd.R_drewN | apply Kd.R_drew)); exact HO_14.out)) : p := h
theorem zay10 {p : Prop} (h : p := by first | exact HO_10.out | ((with_reducible repeat (first | apply Kd.R_alloc | apply Kd.R_drewN | apply Kd.R_drew)); exact HO_10.out)) : p := h
theorem zay11 {p : Prop} (h : p := by repeat (first | (with_reducible first | exact HB.out | apply below_alloc | apply pw_below_drewN | apply below_drew1 | refine below_set ?_ GE1459.out) | exact HB.out)) : p := h
theorem zay12 {p : Prop} (h : p := by first | exact HO_13.out | ((with_reducible repeat (first | apply Kd.R_alloc | apply Kd.R_drewN | apply Kd.R_drew)); exact HO_13.out)) : p := h
theorem zay13 {p : Prop} (h : p := by repeat (first | exact (Kd.C_below HR0_2.out HB.out) | (with_reducible refine Kd.C_alloc ?_ _) | (with_reducible refine Kd.C_drewN ?_ _) | (with_reducible refine Kd.C_drew ?_))) : p := h
theorem zay14 {p : Prop} (h : p := by repeat (first | exact (Kd.R_reads' HO_14.out).2.2 | (with_reducible refine Kd.C_alloc ?_ _) | (with_reducible refine Kd.C_drewN ?_ _) | (with_reducible refine Kd.C_drew ?_))) : p := h
theorem zay15 {p : Prop} (h : p := by repeat (first | (with_reducible first | exact HB.out | apply below_alloc | apply pw_below_drewN | apply below_drew1) | exact HB.out)) : p := h
theorem zay16 {p : Prop} (h : p := by first | exact HO1466.out | ((with_reducible repeat (first | apply Kd.R_alloc | apply Kd.R_drewN | apply Kd.R_drew)); exact HO1466.out)) : p := h
theorem zay17 {p : Prop} (h : p := by first | rfl | (simp [errW_none, errW_some] <;> rfl) | (simp [*, errW_none, errW_some] <;> rfl)) : p := h
theorem zay18 {p : Prop} (h : p := by first | exact HO1471.out | ((with_reducible repeat (first | apply Kd.R_alloc | apply Kd.R_drewN | apply Kd.R_drew)); exact HO1471.out)) : p := h
theorem zay19 {p : Prop} (h : p := by first | exact HO1496.out | ((with_reducible repeat (first | apply Kd.R_alloc | apply Kd.R_drewN | apply Kd.R_drew)); exact HO1496.out)) : p := h
theorem zay20 {p : Prop} (h : p := by first | exact HO1474.out | ((with_reducible repeat (first | apply Kd.R_alloc | apply Kd.R_drewN | apply Kd.R_drew)); exact HO1474.out)) : p := h
theorem zay21 {p : Prop} (h : p := by repeat (first | exact (Kd.R_reads' HO_10.out).2.2 | (with_reducible refine Kd.C_alloc ?_ _) | (with_reducible refine Kd.C_drewN ?_ _) | (with_reducible refine Kd.C_drew ?_))) : p := h
theorem zay22 {p : Prop} (h : p := by repeat (first | exact (Kd.C_below HR2.out HB.out) | (with_reducible refine Kd.C_alloc ?_ _) | (with_reducible refine Kd.C_drewN ?_ _) | (with_reducible refine Kd.C_drew ?_))) : p := h
theorem zay23 {p : Prop} (h : p := by (try simp only [List.map_toArray, List.map_cons, List.map_nil]); first | done | (rw [show t1508.length = t1487.length from (Kd.R_reads' HO_14.out).1.symm] <;> rfl) | rfl | (simp only [List.length_drop, List.length_take]; rfl)) : p := h
theorem zay24 {p : Prop} (h : p := by (with_reducible repeat (first | apply Kd.R_alloc | apply Kd.R_drewN | apply Kd.R_drew)); exact (Kd.R_mono (Kd.R_far (p := ⟨gb1481, 2, none⟩) (Kd.R_far (p := ⟨gb1481, 1, none⟩) (Kd.R_far (p := ⟨gb1481, 0, none⟩) (Kd.R_types HO1480.out BK1481.out (by decide)) (fun _ hk => hk.2) (.int .i64 t1476)) (fun _ hk => hk.2) (.int .i64 t1477)) (fun _ hk => hk.2) (.slice Ao42 t1478.length co42)) (fun _ h_ => h_.1))) : p := h
theorem zay25 {p : Prop} (h : p := by (with_reducible repeat (first | apply Kd.R_alloc | apply Kd.R_drewN | apply Kd.R_drew)); exact (Kd.R_mono (Kd.R_far (p := ⟨gb1481, 2, none⟩) (Kd.R_far (p := ⟨gb1481, 1, none⟩) (Kd.R_far (p := ⟨gb1481, 0, none⟩) (Kd.R_types HO1474.out BK1481.out (by decide)) (fun _ hk => hk.2) (.int .i64 t1476)) (fun _ hk => hk.2) (.int .i64 t1477)) (fun _ hk => hk.2) (.slice Ao42 t1478.length co42)) (fun _ h_ => h_.1))) : p := h
theorem zay26 {p : Prop} (h : p := by (with_reducible repeat (first | apply Kd.R_alloc | apply Kd.R_drewN | apply Kd.R_drew)); exact (Kd.R_mono (Kd.R_far (p := ⟨gb1481, 2, none⟩) (Kd.R_far (p := ⟨gb1481, 1, none⟩) (Kd.R_far (p := ⟨gb1481, 0, none⟩) (Kd.R_types HO1471.out BK1481.out (by decide)) (fun _ hk => hk.2) (.int .i64 t1476)) (fun _ hk => hk.2) (.int .i64 t1477)) (fun _ hk => hk.2) (.slice Ao42 t1478.length co42)) (fun _ h_ => h_.1))) : p := h
theorem zay27 {p : Prop} (h : p := by (with_reducible repeat (first | apply Kd.R_alloc | apply Kd.R_drewN | apply Kd.R_drew)); exact (Kd.R_mono (Kd.R_far (p := ⟨gb1481, 2, none⟩) (Kd.R_far (p := ⟨gb1481, 1, none⟩) (Kd.R_far (p := ⟨gb1481, 0, none⟩) (Kd.R_types HO1466.out BK1481.out (by decide)) (fun _ hk => hk.2) (.int .i64 t1476)) (fun _ hk => hk.2) (.int .i64 t1477)) (fun _ hk => hk.2) (.slice Ao42 t1478.length co42)) (fun _ h_ => h_.1))) : p := h
theorem zay28 {p : Prop} (h : p := by first | exact HO1514.out | ((with_reducible repeat (first | apply Kd.R_alloc | apply Kd.R_drewN | apply Kd.R_drew)); exact HO1514.out)) : p := h
theorem zay29 {p : Prop} (h : p := by repeat (first | exact (Kd.R_reads' HO_1482002.out).2.2 | (with_reducible refine Kd.C_alloc ?_ _) | (with_reducible refine Kd.C_drewN ?_ _) | (with_reducible refine Kd.C_drew ?_))) : p := h
theorem zay30 {p : Prop} (h : p := by repeat (first | exact (Kd.R_reads' HO1496.out).2.2 | (with_reducible refine Kd.C_alloc ?_ _) | (with_reducible refine Kd.C_drewN ?_ _) | (with_reducible refine Kd.C_drew ?_))) : p := h
theorem zay31 {p : Prop} (h : p := by first | exact HO1480.out | ((with_reducible repeat (first | apply Kd.R_alloc | apply Kd.R_drewN | apply Kd.R_drew)); exact HO1480.out)) : p := h
theorem zay32 {p : Prop} (h : p := by (with_reducible repeat (first | apply Kd.R_alloc | apply Kd.R_drewN | apply Kd.R_drew)); exact Kd.R_mono HO_1482002.out (fun _ hk => ⟨hk.1, hk.2.2.1⟩)) : p := h
theorem zay33 {p : Prop} (h : p := by (with_reducible repeat (first | apply Kd.R_alloc | apply Kd.R_drewN | apply Kd.R_drew)); exact Kd.R_mono HO_10.out (fun _ hk => ⟨hk.2.1, hk.2.2.1⟩)) : p := h
theorem zay34 {p : Prop} (h : p := by (with_reducible repeat (first | apply Kd.R_alloc | apply Kd.R_drewN | apply Kd.R_drew)); exact Kd.R_mono HO_14.out (fun _ hk => ⟨hk.1, hk.2.2.1⟩)) : p := h
theorem zay35 {p : Prop} (h : p := by first | rfl | (simp; done) | (simp [*]; done)) : p := h
theorem zay36 {p : Prop} (h : p := by first | exact HO1484.out | ((with_reducible repeat (first | apply Kd.R_alloc | apply Kd.R_drewN | apply Kd.R_drew)); exact HO1484.out)) : p := h
theorem zay37 {p : Prop} (h : p := by rw [show t1508.length = t1487.length from (Kd.R_reads' HO_14.out).1.symm]; exact (Kd.R_reads' HO_14.out).2.1) : p := h
theorem zay38 {p : Prop} (h : p := by (try simp only [hl1482002_62]); (with_reducible repeat (first | apply Kd.R_alloc | apply Kd.R_drewN | apply Kd.R_drew)); exact Kd.R_mono HO_1482002.out (fun _ hk => hk.1.1.1.2)) : p := h
theorem zay39 {p : Prop} (h : p := by (try simp only [hl1482002_62]); (with_reducible repeat (first | apply Kd.R_alloc | apply Kd.R_drewN | apply Kd.R_drew)); exact Kd.R_mono HO_14.out (fun _ hk => hk.1.1.1.2)) : p := h
theorem zay40 {p : Prop} (h : p := by (with_reducible repeat (first | apply Kd.R_alloc | apply Kd.R_drewN | apply Kd.R_drew)); exact Kd.R_mono HO1489.out (fun _ hk => ⟨hk.1.1.2, ⟨hk.2, hk.1.2⟩⟩)) : p := h
theorem zay41 {p : Prop} (h : p := by (with_reducible repeat (first | apply Kd.R_alloc | apply Kd.R_drewN | apply Kd.R_drew)); exact Kd.R_mono HO1484.out (fun _ hk => ⟨hk.1.1.2, ⟨hk.2, hk.1.2⟩⟩)) : p := h
theorem zay42 {p : Prop} (h : p := by (with_reducible repeat (first | apply Kd.R_alloc | apply Kd.R_drewN | apply Kd.R_drew)); exact Kd.R_mono HO1480.out (fun _ hk => ⟨hk.1.1.2, ⟨hk.1.2, hk.2⟩⟩)) : p := h
theorem zay43 {p : Prop} (h : p := by (with_reducible repeat (first | apply Kd.R_alloc | apply Kd.R_drewN | apply Kd.R_drew)); exact Kd.R_mono HO1474.out (fun _ hk => ⟨hk.1.2, ⟨hk.2, hk.1.1.2⟩⟩)) : p := h
theorem zay44 {p : Prop} (h : p := by repeat (first | exact (Kd.R_reads' HO1522.out).2.2 | (with_reducible refine Kd.C_alloc ?_ _) | (with_reducible refine Kd.C_drewN ?_ _) | (with_reducible refine Kd.C_drew ?_))) : p := h
theorem zay45 {p : Prop} (h : p := by repeat (first | exact (Kd.R_reads' HO1500.out).2.2 | (with_reducible refine Kd.C_alloc ?_ _) | (with_reducible refine Kd.C_drewN ?_ _) | (with_reducible refine Kd.C_drew ?_))) : p := h
theorem zay46 {p : Prop} (h : p := by repeat (first | exact (Kd.R_reads' HO1489.out).2.2 | (with_reducible refine Kd.C_alloc ?_ _) | (with_reducible refine Kd.C_drewN ?_ _) | (with_reducible refine Kd.C_drew ?_))) : p := h
theorem zay47 {p : Prop} (h : p := by repeat (first | exact (Kd.R_reads' HO1474.out).2.2 | (with_reducible refine Kd.C_alloc ?_ _) | (with_reducible refine Kd.C_drewN ?_ _) | (with_reducible refine Kd.C_drew ?_))) : p := h
theorem zay48 {p : Prop} (h : p := by repeat (first | exact (Kd.R_reads' HO_13.out).2.2 | (with_reducible refine Kd.C_alloc ?_ _) | (with_reducible refine Kd.C_drewN ?_ _) | (with_reducible refine Kd.C_drew ?_))) : p := h
theorem zay49 {p : Prop} (h : p := by (try simp only [hl1482002_62]); first | exact BK1481.out | ((with_reducible repeat (first | refine blk_drewN ?_ _ | refine blk_drew ?_ | refine blk_alloc ?_ _)); exact BK1481.out)) : p := h
theorem zay50 {p : Prop} (h : p := by (try simp only [hl1482002_62]); first | exact BK1460.out | ((with_reducible repeat (first | refine blk_drewN ?_ _ | refine blk_drew ?_ | refine blk_alloc ?_ _)); exact BK1460.out)) : p := h
theorem zay51 {p : Prop} (h : p := by (try simp only [hl1482002_62]); first | exact BK1459.out | ((with_reducible repeat (first | refine blk_drewN ?_ _ | refine blk_drew ?_ | refine blk_alloc ?_ _)); exact BK1459.out)) : p := h
theorem zay52 {p : Prop} (h : p := by rw [hg]; exact Nat.ne_of_lt (blk_lt (g := gb1459) (o := .cells #[.int .i64 a0_0, .int .i64 a0_1, .slice A0_2 l0_2.length c0_2] 24 (0, 0)) zay2)) : p := h
theorem zay53 {p : Prop} (h : p := by rw [hg]; exact Nat.ne_of_gt (blk_lt (g := gb1459) (o := .cells #[.int .i64 a0_0, .int .i64 a0_1, .slice A0_2 l0_2.length c0_2] 24 (0, 0)) zay2)) : p := h
theorem zay54 {p : Prop} (h : p := by rw [hg]; exact (below_size zay15)) : p := h
theorem zay55 {p : Prop} (h : p := by rw [hg]; exact (below_size zay11)) : p := h
/-! ### laws_FnExactSpinTour: function 14 -/
mutual
def laws_FnExactSpinTour.j0 : Nat → List Int → Int → List Int → Bool → List Int → List Int → Bool → Bool → Int → Int → List Int → Int → Int → Int → Int → List Int → Option (Bool)
 | 0, _, _, _, _, _, _, _, _, _, _, _, _, _, _, _, _ => none
 | k + 1, x2, x3, x10, x11, x13, x14, x15, x61, x1460000, x1460001, x1460002, x1461000, x1461001, x1482000, x1482001, x1482002 => if x61 = true then (some false) else ((laws_toBoard.f k x1460000 x1460001 x1460002).bind fun bt1492 => ((laws_eqBoard.f k x1482000 x1482001 x1482002 bt1492.1 bt1492.2.1 bt1492.2.2).bind fun t1497 => (if t1497 = true then ((laws_toIntS.f k x2).bind fun t1498 => ((laws_eqIntS.f k x13 t1498).bind fun t1501 => (if t1501 = true then ((laws_markBoard.f k x1482000 x1482001 x1482002 1).bind fun bt1502 => ((laws_markIntS.f k x13 bt1502.1).bind fun bt1504 => (if bt1504.1 < 0 then (laws_FnExactSpinTour.j1 k x2 x3 x10 x11 x14 true x1460000 x1460001 x1460002 x1461000 x1461001) else ((laws_eqIntS.f k x14 x10).bind fun t1506 => (if t1506 = true then (laws_FnExactSpinTour.j1 k x2 x3 x10 x11 x14 (x15 != x11) x1460000 x1460001 x1460002 x1461000 x1461001) else (laws_FnExactSpinTour.j1 k x2 x3 x10 x11 x14 true x1460000 x1460001 x1460002 x1461000 x1461001)))))) else (some false)))) else (some false))))
def laws_FnExactSpinTour.j1 : Nat → List Int → Int → List Int → Bool → List Int → Bool → Int → Int → List Int → Int → Int → Option (Bool)
 | 0, _, _, _, _, _, _, _, _, _, _, _ => none
 | k + 1, x2, x3, x10, x11, x14, x90, x1460000, x1460001, x1460002, x1461000, x1461001 => if x90 = true then (some false) else ((laws_markIntS.f k x14 1).bind fun bt1507 => ((laws_heldIntS.f k bt1507.2 1).bind fun t1509 => (if t1509 < 0 then (some false) else (if t1509 = bt1507.1 then ((laws_toBoard.f k x1460000 x1460001 x1460002).bind fun bt1510 => ((laws_toLeaper.f x1461000 x1461001).bind fun bt1515 => ((laws_toIntS.f k x2).bind fun t1517 => ((impl_SpinTour.f k bt1510.1 bt1510.2.1 bt1510.2.2 bt1515.1 bt1515.2 t1517 x3).bind fun bt1520 => ((laws_eqIntS.f k bt1520.1 x10).bind fun t1524 => (if t1524 = true then (laws_FnExactSpinTour.j2 k bt1507.2 bt1507.1 (bt1520.2 != x11)) else (laws_FnExactSpinTour.j2 k bt1507.2 bt1507.1 true))))))) else (some false)))))
def laws_FnExactSpinTour.j2 : Nat → List Int → Int → Bool → Option (Bool)
 | 0, _, _, _ => none
 | k + 1, x14, x17, x121 => if x121 = true then (some false) else ((laws_heldIntS.f k x14 1).bind fun t1525 => (if t1525 < 0 then (some false) else (if t1525 = x17 then (some true) else (some false))))
end
def laws_FnExactSpinTour.f (k : Nat) (a0_0 : Int) (a0_1 : Int) (l0_2 : List Int) (a1_0 : Int) (a1_1 : Int) (l2 : List Int) (a3 : Int) : Option (Bool) := if (l2.length : Int) > 1048576 then (some true) else ((laws_szBoard.f a0_0 a0_1 l0_2 1048576).bind fun t1461 => (if t1461 < 0 then (some true) else ((laws_toBoard.f k a0_0 a0_1 l0_2).bind fun bt1462 => ((laws_toLeaper.f a1_0 a1_1).bind fun bt1467 => ((laws_toIntS.f k l2).bind fun t1469 => ((spec_SpinTour.f k bt1462.1 bt1462.2.1 bt1462.2.2 bt1467.1 bt1467.2 t1469 a3).bind fun bt1472 => ((laws_toBoard.f k a0_0 a0_1 l0_2).bind fun bt1476 => ((laws_toIntS.f k l2).bind fun t1482 => ((laws_toLeaper.f a1_0 a1_1).bind fun bt1485 => ((impl_SpinTour.f k bt1476.1 bt1476.2.1 bt1476.2.2 bt1485.1 bt1485.2 t1482 a3).bind fun bt1487 => ((laws_eqIntS.f k bt1487.1 bt1472.1).bind fun t1491 => (if t1491 = true then (laws_FnExactSpinTour.j0 k l2 a3 bt1472.1 bt1472.2 t1482 bt1487.1 bt1487.2 (bt1487.2 != bt1472.2) a0_0 a0_1 l0_2 a1_0 a1_1 bt1476.1 bt1476.2.1 bt1476.2.2) else (laws_FnExactSpinTour.j0 k l2 a3 bt1472.1 bt1472.2 t1482 bt1487.1 bt1487.2 true a0_0 a0_1 l0_2 a1_0 a1_1 bt1476.1 bt1476.2.1 bt1476.2.2)))))))))))))
def laws_FnExactSpinTour.T7 : Bool × List (List Nat × List Nat) := (true, [([], []), ([0], [0]), ([], []), ([2, 1], [2]), ([], []), ([4, 3], [4]), ([], []), ([1, 3, 5, 6, 5], [1, 3, 5, 6]), ([7], [7]), ([8], [8]), ([8], [8]), ([9, 7, 0, 1, 2, 3, 4, 5, 6, 7, 8, 9], [9]), ([10, 11, 0, 1, 2, 3, 4, 5, 6, 7, 8, 9, 10, 11], [10])])
def laws_FnExactSpinTour.B7 : List Nat := [0, 1, 0, 7, 0, 31, 0, 127, 255, 511, 511, 1023, 4095]
theorem laws_FnExactSpinTour.tab7 : rtab .any (opsOf Try.f14 7) = laws_FnExactSpinTour.T7 := by kernel_rfl
theorem laws_FnExactSpinTour.bits7 : waitsOk laws_FnExactSpinTour.T7.2 laws_FnExactSpinTour.B7 = true := by kernel_rfl
def laws_FnExactSpinTour.T10 : Bool × List (List Nat × List Nat) := (true, [([], []), ([], []), ([1], [1]), ([], []), ([], []), ([0, 2, 3, 4, 2], [0, 2, 3, 4]), ([5], [5]), ([6], [6]), ([6], [6]), ([7, 5, 0, 1, 2, 3, 4, 5, 6, 7], [7]), ([8, 9, 0, 1, 2, 3, 4, 5, 6, 7, 8, 9], [8])])
def laws_FnExactSpinTour.B10 : List Nat := [0, 0, 2, 0, 0, 31, 63, 127, 127, 255, 1023]
theorem laws_FnExactSpinTour.tab10 : rtab .any (opsOf Try.f14 10) = laws_FnExactSpinTour.T10 := by kernel_rfl
theorem laws_FnExactSpinTour.bits10 : waitsOk laws_FnExactSpinTour.T10.2 laws_FnExactSpinTour.B10 = true := by kernel_rfl
def laws_FnExactSpinTour.T30 : Bool × List (List Nat × List Nat) := (true, [([], []), ([0], [0]), ([], []), ([2, 1], [2]), ([], []), ([4, 3], [4]), ([], []), ([1, 3, 5, 6, 5], [1, 3, 5, 6]), ([7], [7]), ([8], [8]), ([8], [8]), ([9, 7, 0, 1, 2, 3, 4, 5, 6, 7, 8, 9], [9]), ([10, 11, 0, 1, 2, 3, 4, 5, 6, 7, 8, 9, 10, 11], [10])])
def laws_FnExactSpinTour.B30 : List Nat := [0, 1, 0, 7, 0, 31, 0, 127, 255, 511, 511, 1023, 4095]
theorem laws_FnExactSpinTour.tab30 : rtab .any (opsOf Try.f14 30) = laws_FnExactSpinTour.T30 := by kernel_rfl
theorem laws_FnExactSpinTour.bits30 : waitsOk laws_FnExactSpinTour.T30.2 laws_FnExactSpinTour.B30 = true := by kernel_rfl
set_option maxHeartbeats 8000000 in
set_option maxRecDepth 100000 in
theorem laws_FnExactSpinTour.calls (k : Nat) (a0_0 : Int) (a0_1 : Int) (A0_2 : Option Addr) (c0_2 : Nat) (l0_2 : List Int) (a1_0 : Int) (a1_1 : Int) (A2 : Option Addr) (c2 : Nat) (l2 : List Int) (a3 : Int) (r : Bool) (w : World) (hr0_2 : Kd.C (Kd.int .i64) w A0_2 l0_2.length l0_2) (hc0_2 : l0_2.length ≤ c0_2) (hr2 : Kd.C (Kd.int .i64) w A2 l2.length l2) (hc2 : l2.length ≤ c2) (h : laws_FnExactSpinTour.f k a0_0 a0_1 l0_2 a1_0 a1_1 l2 a3 = some r) :
  Calls Try.prog 14 #[.agg #[.int .i64 a0_0, .int .i64 a0_1, .slice A0_2 l0_2.length c0_2], .agg #[.int .i64 a1_0, .int .i64 a1_1], .slice A2 l2.length c2, .int .i64 a3] w fun e w' => e = .returned (.bool r) ∧ Below w.heap.size w w' := by
 have hu24 := Try.underlying24
 have hu26 := Try.underlying26
 have hu30 := Try.underlying30
 have HR0_2 := Aside0.mk hr0_2
 have HC0_2 := Aside0.mk hc0_2
 clear hr0_2 hc0_2
 have HR2 := Aside0.mk hr2
 have HC2 := Aside0.mk hc2
 clear hr2 hc2
 have HB := Aside0.mk (Below.refl w.heap.size w)
 have H : (if (l2.length : Int) > 1048576 then (some true) else ((laws_szBoard.f a0_0 a0_1 l0_2 1048576).bind fun t1461 => (if t1461 < 0 then (some true) else ((laws_toBoard.f k a0_0 a0_1 l0_2).bind fun bt1462 => ((laws_toLeaper.f a1_0 a1_1).bind fun bt1467 => ((laws_toIntS.f k l2).bind fun t1469 => ((spec_SpinTour.f k bt1462.1 bt1462.2.1 bt1462.2.2 bt1467.1 bt1467.2 t1469 a3).bind fun bt1472 => ((laws_toBoard.f k a0_0 a0_1 l0_2).bind fun bt1476 => ((laws_toIntS.f k l2).bind fun t1482 => ((laws_toLeaper.f a1_0 a1_1).bind fun bt1485 => ((impl_SpinTour.f k bt1476.1 bt1476.2.1 bt1476.2.2 bt1485.1 bt1485.2 t1482 a3).bind fun bt1487 => ((laws_eqIntS.f k bt1487.1 bt1472.1).bind fun t1491 => (if t1491 = true then (laws_FnExactSpinTour.j0 k l2 a3 bt1472.1 bt1472.2 t1482 bt1487.1 bt1487.2 (bt1487.2 != bt1472.2) a0_0 a0_1 l0_2 a1_0 a1_1 bt1476.1 bt1476.2.1 bt1476.2.2) else (laws_FnExactSpinTour.j0 k l2 a3 bt1472.1 bt1472.2 t1482 bt1487.1 bt1487.2 true a0_0 a0_1 l0_2 a1_0 a1_1 bt1476.1 bt1476.2.1 bt1476.2.2)))))))))))))) = some r := h
 clear h
 by_cases c5 : (l2.length : Int) > 1048576
 ·rw [if_pos c5] at H
  have c5b0 : decide (1048576 < (l2.length : Int)) = true := decide_eq_true c5
  have c5b1 : decide (1048576 < l2.length) = true := decide_eq_true (by omega)
  clear c5
  obtain rfl := Option.some.inj H
  go_enter Try.func14, Try.ntmps14
  go_wp2_with (first | ((with_reducible refine gate_dst (N := 4) rfl ?_); refine box_event ?hg (N := 4) ?hd (cs := #[.int .i64 a0_0, .int .i64 a0_1, .slice A0_2 l0_2.length c0_2]) (t := 24) ?hr ?_; (case hd => rfl); (case hg => rfl); (case hr => first | (go_simp; done) | (go_simp; rfl)); intro gb1459 hg w6 hbox hb; have n0_ := Aside0.mk (below_step zay15 hb); have n1_ := Aside0.mk (hbox); have n2_ := Aside0.mk ((zay54 : w.heap.size ≤ gb1459)); have n3_ := Aside0.mk ((zay54 : w.heap.size ≤ gb1459)); clear HB; have HB := n0_; have BK1459 := n1_; have GW1459 := n2_; have GE1459 := n3_; clear n0_ n1_ n2_ n3_; clear hb hbox hg) | ((with_reducible refine gate_dst (N := 5) rfl ?_); refine box_event ?hg (N := 5) ?hd (cs := #[.int .i64 a1_0, .int .i64 a1_1]) (t := 26) ?hr ?_; (case hd => rfl); (case hg => rfl); (case hr => first | (go_simp; done) | (go_simp; rfl)); intro gb1460 hg w7 hbox hb; have n0_ := Aside0.mk (blk_below (g := gb1459) (o := .cells #[.int .i64 a0_0, .int .i64 a0_1, .slice A0_2 l0_2.length c0_2] 24 (0, 0)) zay2 hb); have n1_ := Aside0.mk (below_step zay11 hb); have n2_ := Aside0.mk (hbox); have n3_ := Aside0.mk ((zay55 : w.heap.size ≤ gb1460)); have n4_ := Aside0.mk ((zay55 : w.heap.size ≤ gb1460)); have n5_ := Aside0.mk ((zay52 : gb1459 ≠ gb1460)); have n6_ := Aside0.mk ((zay53 : gb1460 ≠ gb1459)); clear BK1459; clear HB; have BK1459 := n0_; have HB := n1_; have BK1460 := n2_; have GW1460 := n3_; have GE1460 := n4_; have NB1459_1460 := n5_; have NB1460_1459 := n6_; clear n0_ n1_ n2_ n3_ n4_ n5_ n6_; clear hb hbox hg))
  go_ret
  exact ⟨zay17, zay6⟩
 rw [if_neg c5] at H
 have c5b0 : decide (1048576 < (l2.length : Int)) = false := decide_eq_false c5
 have c5b1 : decide (1048576 < l2.length) = false := decide_eq_false (by omega)
 clear c5
 replace H := Option.bind_eq_some_iff.mp H
 obtain ⟨t1461, A80, H⟩ := H
 replace H : (if t1461 < 0 then (some true) else ((laws_toBoard.f k a0_0 a0_1 l0_2).bind fun bt1462 => ((laws_toLeaper.f a1_0 a1_1).bind fun bt1467 => ((laws_toIntS.f k l2).bind fun t1469 => ((spec_SpinTour.f k bt1462.1 bt1462.2.1 bt1462.2.2 bt1467.1 bt1467.2 t1469 a3).bind fun bt1472 => ((laws_toBoard.f k a0_0 a0_1 l0_2).bind fun bt1476 => ((laws_toIntS.f k l2).bind fun t1482 => ((laws_toLeaper.f a1_0 a1_1).bind fun bt1485 => ((impl_SpinTour.f k bt1476.1 bt1476.2.1 bt1476.2.2 bt1485.1 bt1485.2 t1482 a3).bind fun bt1487 => ((laws_eqIntS.f k bt1487.1 bt1472.1).bind fun t1491 => (if t1491 = true then (laws_FnExactSpinTour.j0 k l2 a3 bt1472.1 bt1472.2 t1482 bt1487.1 bt1487.2 (bt1487.2 != bt1472.2) a0_0 a0_1 l0_2 a1_0 a1_1 bt1476.1 bt1476.2.1 bt1476.2.2) else (laws_FnExactSpinTour.j0 k l2 a3 bt1472.1 bt1472.2 t1482 bt1487.1 bt1487.2 true a0_0 a0_1 l0_2 a1_0 a1_1 bt1476.1 bt1476.2.1 bt1476.2.2)))))))))))) = some r := H
 have A8 := Aside0.mk A80
 clear A80
 by_cases c9 : t1461 < 0
 ·rw [if_pos c9] at H
  have c9b0 : decide (t1461 < 0) = true := decide_eq_true c9
  clear c9
  obtain rfl := Option.some.inj H
  go_enter Try.func14, Try.ntmps14
  go_wp2_with (first | ((with_reducible refine gate_dst (N := 4) rfl ?_); refine box_event ?hg (N := 4) ?hd (cs := #[.int .i64 a0_0, .int .i64 a0_1, .slice A0_2 l0_2.length c0_2]) (t := 24) ?hr ?_; (case hd => rfl); (case hg => rfl); (case hr => first | (go_simp; done) | (go_simp; rfl)); intro gb1459 hg w10 hbox hb; have n0_ := Aside0.mk (below_step zay15 hb); have n1_ := Aside0.mk (hbox); have n2_ := Aside0.mk ((zay54 : w.heap.size ≤ gb1459)); have n3_ := Aside0.mk ((zay54 : w.heap.size ≤ gb1459)); clear HB; have HB := n0_; have BK1459 := n1_; have GW1459 := n2_; have GE1459 := n3_; clear n0_ n1_ n2_ n3_; clear hb hbox hg) | ((with_reducible refine gate_dst (N := 5) rfl ?_); refine box_event ?hg (N := 5) ?hd (cs := #[.int .i64 a1_0, .int .i64 a1_1]) (t := 26) ?hr ?_; (case hd => rfl); (case hg => rfl); (case hr => first | (go_simp; done) | (go_simp; rfl)); intro gb1460 hg w11 hbox hb; have n0_ := Aside0.mk (blk_below (g := gb1459) (o := .cells #[.int .i64 a0_0, .int .i64 a0_1, .slice A0_2 l0_2.length c0_2] 24 (0, 0)) zay2 hb); have n1_ := Aside0.mk (below_step zay11 hb); have n2_ := Aside0.mk (hbox); have n3_ := Aside0.mk ((zay55 : w.heap.size ≤ gb1460)); have n4_ := Aside0.mk ((zay55 : w.heap.size ≤ gb1460)); have n5_ := Aside0.mk ((zay52 : gb1459 ≠ gb1460)); have n6_ := Aside0.mk ((zay53 : gb1460 ≠ gb1459)); clear BK1459; clear HB; have BK1459 := n0_; have HB := n1_; have BK1460 := n2_; have GW1460 := n3_; have GE1460 := n4_; have NB1459_1460 := n5_; have NB1460_1459 := n6_; clear n0_ n1_ n2_ n3_ n4_ n5_ n6_; clear hb hbox hg; have hnb12 := NB1459_1460.out; have hnc12 := NB1460_1459.out; have hcz13_0 : w11.cell? ⟨gb1459, 0, none⟩ = some (.int .i64 a0_0) := (blk_cell BK1459.out 0).trans rfl; have hcz13_1 : w11.cell? ⟨gb1459, 1, none⟩ = some (.int .i64 a0_1) := (blk_cell BK1459.out 1).trans rfl; have hcz13_2 : w11.cell? ⟨gb1459, 2, none⟩ = some (.slice A0_2 l0_2.length c0_2) := (blk_cell BK1459.out 2).trans rfl; have hfz13_0 := blk_frozen BK1459.out 0; have hfz13_1 := blk_frozen BK1459.out 1; have hfz13_2 := blk_frozen BK1459.out 2) | ((with_reducible refine gate_callee (f := 15) rfl ?_); refine goesL_ (some 26) rfl rfl Try.func15 (by kernel_rfl) rfl #[.agg #[.int .i64 a0_0, .int .i64 a0_1, .slice A0_2 l0_2.length c0_2], .int .i64 1048576] rfl zay3 ?_; (with_reducible refine (laws_szBoard.calls a0_0 a0_1 _ _ l0_2 1048576 t1461 _ ?side1 ?side2 A8.out).mono ?_); (case side1 => exact zay13); (case side2 => exact HC0_2.out); rintro e w14 ⟨rfl, hb⟩; refine ⟨_, rfl, ?_⟩; have n0_ := Aside0.mk (blk_below (g := gb1459) (o := .cells #[.int .i64 a0_0, .int .i64 a0_1, .slice A0_2 l0_2.length c0_2] 24 (0, 0)) zay2 hb); have n1_ := Aside0.mk (blk_below (g := gb1460) (o := .cells #[.int .i64 a1_0, .int .i64 a1_1] 26 (0, 0)) zay4 hb); have n2_ := Aside0.mk (below_step zay6 hb); clear BK1459; clear BK1460; clear HB; have BK1459 := n0_; have BK1460 := n1_; have HB := n2_; clear n0_ n1_ n2_; (try clear hb); (try clear hb2); (try clear hk); (try clear hi); (try clear hna_); (try clear hnb_)))
  go_ret
  exact ⟨zay17, zay6⟩
 rw [if_neg c9] at H
 have c9b0 : decide (t1461 < 0) = false := decide_eq_false c9
 clear c9
 replace H := Option.bind_eq_some_iff.mp H
 obtain ⟨⟨t1462, t1463, t1464⟩, A150, H⟩ := H
 replace H : ((laws_toLeaper.f a1_0 a1_1).bind fun bt1467 => ((laws_toIntS.f k l2).bind fun t1469 => ((spec_SpinTour.f k t1462 t1463 t1464 bt1467.1 bt1467.2 t1469 a3).bind fun bt1472 => ((laws_toBoard.f k a0_0 a0_1 l0_2).bind fun bt1476 => ((laws_toIntS.f k l2).bind fun t1482 => ((laws_toLeaper.f a1_0 a1_1).bind fun bt1485 => ((impl_SpinTour.f k bt1476.1 bt1476.2.1 bt1476.2.2 bt1485.1 bt1485.2 t1482 a3).bind fun bt1487 => ((laws_eqIntS.f k bt1487.1 bt1472.1).bind fun t1491 => (if t1491 = true then (laws_FnExactSpinTour.j0 k l2 a3 bt1472.1 bt1472.2 t1482 bt1487.1 bt1487.2 (bt1487.2 != bt1472.2) a0_0 a0_1 l0_2 a1_0 a1_1 bt1476.1 bt1476.2.1 bt1476.2.2) else (laws_FnExactSpinTour.j0 k l2 a3 bt1472.1 bt1472.2 t1482 bt1487.1 bt1487.2 true a0_0 a0_1 l0_2 a1_0 a1_1 bt1476.1 bt1476.2.1 bt1476.2.2)))))))))) = some r := H
 have A15 := Aside0.mk A150
 clear A150
 replace H := Option.bind_eq_some_iff.mp H
 obtain ⟨⟨t1467, t1468⟩, A160, H⟩ := H
 replace H : ((laws_toIntS.f k l2).bind fun t1469 => ((spec_SpinTour.f k t1462 t1463 t1464 t1467 t1468 t1469 a3).bind fun bt1472 => ((laws_toBoard.f k a0_0 a0_1 l0_2).bind fun bt1476 => ((laws_toIntS.f k l2).bind fun t1482 => ((laws_toLeaper.f a1_0 a1_1).bind fun bt1485 => ((impl_SpinTour.f k bt1476.1 bt1476.2.1 bt1476.2.2 bt1485.1 bt1485.2 t1482 a3).bind fun bt1487 => ((laws_eqIntS.f k bt1487.1 bt1472.1).bind fun t1491 => (if t1491 = true then (laws_FnExactSpinTour.j0 k l2 a3 bt1472.1 bt1472.2 t1482 bt1487.1 bt1487.2 (bt1487.2 != bt1472.2) a0_0 a0_1 l0_2 a1_0 a1_1 bt1476.1 bt1476.2.1 bt1476.2.2) else (laws_FnExactSpinTour.j0 k l2 a3 bt1472.1 bt1472.2 t1482 bt1487.1 bt1487.2 true a0_0 a0_1 l0_2 a1_0 a1_1 bt1476.1 bt1476.2.1 bt1476.2.2))))))))) = some r := H
 have A16 := Aside0.mk A160
 clear A160
 replace H := Option.bind_eq_some_iff.mp H
 obtain ⟨t1469, A170, H⟩ := H
 replace H : ((spec_SpinTour.f k t1462 t1463 t1464 t1467 t1468 t1469 a3).bind fun bt1472 => ((laws_toBoard.f k a0_0 a0_1 l0_2).bind fun bt1476 => ((laws_toIntS.f k l2).bind fun t1482 => ((laws_toLeaper.f a1_0 a1_1).bind fun bt1485 => ((impl_SpinTour.f k bt1476.1 bt1476.2.1 bt1476.2.2 bt1485.1 bt1485.2 t1482 a3).bind fun bt1487 => ((laws_eqIntS.f k bt1487.1 bt1472.1).bind fun t1491 => (if t1491 = true then (laws_FnExactSpinTour.j0 k l2 a3 bt1472.1 bt1472.2 t1482 bt1487.1 bt1487.2 (bt1487.2 != bt1472.2) a0_0 a0_1 l0_2 a1_0 a1_1 bt1476.1 bt1476.2.1 bt1476.2.2) else (laws_FnExactSpinTour.j0 k l2 a3 bt1472.1 bt1472.2 t1482 bt1487.1 bt1487.2 true a0_0 a0_1 l0_2 a1_0 a1_1 bt1476.1 bt1476.2.1 bt1476.2.2)))))))) = some r := H
 have A17 := Aside0.mk A170
 clear A170
 replace H := Option.bind_eq_some_iff.mp H
 obtain ⟨⟨t1472, t1475⟩, A180, H⟩ := H
 replace H : ((laws_toBoard.f k a0_0 a0_1 l0_2).bind fun bt1476 => ((laws_toIntS.f k l2).bind fun t1482 => ((laws_toLeaper.f a1_0 a1_1).bind fun bt1485 => ((impl_SpinTour.f k bt1476.1 bt1476.2.1 bt1476.2.2 bt1485.1 bt1485.2 t1482 a3).bind fun bt1487 => ((laws_eqIntS.f k bt1487.1 t1472).bind fun t1491 => (if t1491 = true then (laws_FnExactSpinTour.j0 k l2 a3 t1472 t1475 t1482 bt1487.1 bt1487.2 (bt1487.2 != t1475) a0_0 a0_1 l0_2 a1_0 a1_1 bt1476.1 bt1476.2.1 bt1476.2.2) else (laws_FnExactSpinTour.j0 k l2 a3 t1472 t1475 t1482 bt1487.1 bt1487.2 true a0_0 a0_1 l0_2 a1_0 a1_1 bt1476.1 bt1476.2.1 bt1476.2.2))))))) = some r := H
 have A18 := Aside0.mk A180
 clear A180
 replace H := Option.bind_eq_some_iff.mp H
 obtain ⟨⟨t1476, t1477, t1478⟩, A190, H⟩ := H
 replace H : ((laws_toIntS.f k l2).bind fun t1482 => ((laws_toLeaper.f a1_0 a1_1).bind fun bt1485 => ((impl_SpinTour.f k t1476 t1477 t1478 bt1485.1 bt1485.2 t1482 a3).bind fun bt1487 => ((laws_eqIntS.f k bt1487.1 t1472).bind fun t1491 => (if t1491 = true then (laws_FnExactSpinTour.j0 k l2 a3 t1472 t1475 t1482 bt1487.1 bt1487.2 (bt1487.2 != t1475) a0_0 a0_1 l0_2 a1_0 a1_1 t1476 t1477 t1478) else (laws_FnExactSpinTour.j0 k l2 a3 t1472 t1475 t1482 bt1487.1 bt1487.2 true a0_0 a0_1 l0_2 a1_0 a1_1 t1476 t1477 t1478)))))) = some r := H
 have A19 := Aside0.mk A190
 clear A190
 replace H := Option.bind_eq_some_iff.mp H
 obtain ⟨t1482, A200, H⟩ := H
 replace H : ((laws_toLeaper.f a1_0 a1_1).bind fun bt1485 => ((impl_SpinTour.f k t1476 t1477 t1478 bt1485.1 bt1485.2 t1482 a3).bind fun bt1487 => ((laws_eqIntS.f k bt1487.1 t1472).bind fun t1491 => (if t1491 = true then (laws_FnExactSpinTour.j0 k l2 a3 t1472 t1475 t1482 bt1487.1 bt1487.2 (bt1487.2 != t1475) a0_0 a0_1 l0_2 a1_0 a1_1 t1476 t1477 t1478) else (laws_FnExactSpinTour.j0 k l2 a3 t1472 t1475 t1482 bt1487.1 bt1487.2 true a0_0 a0_1 l0_2 a1_0 a1_1 t1476 t1477 t1478))))) = some r := H
 have A20 := Aside0.mk A200
 clear A200
 replace H := Option.bind_eq_some_iff.mp H
 obtain ⟨⟨t1485, t1486⟩, A210, H⟩ := H
 replace H : ((impl_SpinTour.f k t1476 t1477 t1478 t1485 t1486 t1482 a3).bind fun bt1487 => ((laws_eqIntS.f k bt1487.1 t1472).bind fun t1491 => (if t1491 = true then (laws_FnExactSpinTour.j0 k l2 a3 t1472 t1475 t1482 bt1487.1 bt1487.2 (bt1487.2 != t1475) a0_0 a0_1 l0_2 a1_0 a1_1 t1476 t1477 t1478) else (laws_FnExactSpinTour.j0 k l2 a3 t1472 t1475 t1482 bt1487.1 bt1487.2 true a0_0 a0_1 l0_2 a1_0 a1_1 t1476 t1477 t1478)))) = some r := H
 have A21 := Aside0.mk A210
 clear A210
 replace H := Option.bind_eq_some_iff.mp H
 obtain ⟨⟨t1487, t1490⟩, A220, H⟩ := H
 replace H : ((laws_eqIntS.f k t1487 t1472).bind fun t1491 => (if t1491 = true then (laws_FnExactSpinTour.j0 k l2 a3 t1472 t1475 t1482 t1487 t1490 (t1490 != t1475) a0_0 a0_1 l0_2 a1_0 a1_1 t1476 t1477 t1478) else (laws_FnExactSpinTour.j0 k l2 a3 t1472 t1475 t1482 t1487 t1490 true a0_0 a0_1 l0_2 a1_0 a1_1 t1476 t1477 t1478))) = some r := H
 have A22 := Aside0.mk A220
 clear A220
 have HC23 := Aside0.mk H
 clear H
 go_enter Try.func14, Try.ntmps14
 try go_wp2_with (first | ((with_reducible refine gate_dst (N := 4) rfl ?_); refine box_event ?hg (N := 4) ?hd (cs := #[.int .i64 a0_0, .int .i64 a0_1, .slice A0_2 l0_2.length c0_2]) (t := 24) ?hr ?_; (case hd => rfl); (case hg => rfl); (case hr => first | (go_simp; done) | (go_simp; rfl)); intro gb1459 hg w24 hbox hb; have n0_ := Aside0.mk (below_step zay15 hb); have n1_ := Aside0.mk (hbox); have n2_ := Aside0.mk ((zay54 : w.heap.size ≤ gb1459)); have n3_ := Aside0.mk ((zay54 : w.heap.size ≤ gb1459)); clear HB; have HB := n0_; have BK1459 := n1_; have GW1459 := n2_; have GE1459 := n3_; clear n0_ n1_ n2_ n3_; clear hb hbox hg) | ((with_reducible refine gate_dst (N := 5) rfl ?_); refine box_event ?hg (N := 5) ?hd (cs := #[.int .i64 a1_0, .int .i64 a1_1]) (t := 26) ?hr ?_; (case hd => rfl); (case hg => rfl); (case hr => first | (go_simp; done) | (go_simp; rfl)); intro gb1460 hg w25 hbox hb; have n0_ := Aside0.mk (blk_below (g := gb1459) (o := .cells #[.int .i64 a0_0, .int .i64 a0_1, .slice A0_2 l0_2.length c0_2] 24 (0, 0)) zay2 hb); have n1_ := Aside0.mk (below_step zay11 hb); have n2_ := Aside0.mk (hbox); have n3_ := Aside0.mk ((zay55 : w.heap.size ≤ gb1460)); have n4_ := Aside0.mk ((zay55 : w.heap.size ≤ gb1460)); have n5_ := Aside0.mk ((zay52 : gb1459 ≠ gb1460)); have n6_ := Aside0.mk ((zay53 : gb1460 ≠ gb1459)); clear BK1459; clear HB; have BK1459 := n0_; have HB := n1_; have BK1460 := n2_; have GW1460 := n3_; have GE1460 := n4_; have NB1459_1460 := n5_; have NB1460_1459 := n6_; clear n0_ n1_ n2_ n3_ n4_ n5_ n6_; clear hb hbox hg; have hnb26 := NB1459_1460.out; have hnc26 := NB1460_1459.out; have hcz27_0 : w25.cell? ⟨gb1459, 0, none⟩ = some (.int .i64 a0_0) := (blk_cell BK1459.out 0).trans rfl; have hcz27_1 : w25.cell? ⟨gb1459, 1, none⟩ = some (.int .i64 a0_1) := (blk_cell BK1459.out 1).trans rfl; have hcz27_2 : w25.cell? ⟨gb1459, 2, none⟩ = some (.slice A0_2 l0_2.length c0_2) := (blk_cell BK1459.out 2).trans rfl; have hfz27_0 := blk_frozen BK1459.out 0; have hfz27_1 := blk_frozen BK1459.out 1; have hfz27_2 := blk_frozen BK1459.out 2) | ((with_reducible refine gate_callee (f := 15) rfl ?_); refine goesL_ (some 26) rfl rfl Try.func15 (by kernel_rfl) rfl #[.agg #[.int .i64 a0_0, .int .i64 a0_1, .slice A0_2 l0_2.length c0_2], .int .i64 1048576] rfl zay3 ?_; (with_reducible refine (laws_szBoard.calls a0_0 a0_1 _ _ l0_2 1048576 t1461 _ ?side1 ?side2 A8.out).mono ?_); (case side1 => exact zay13); (case side2 => exact HC0_2.out); rintro e w28 ⟨rfl, hb⟩; refine ⟨_, rfl, ?_⟩; have n0_ := Aside0.mk (blk_below (g := gb1459) (o := .cells #[.int .i64 a0_0, .int .i64 a0_1, .slice A0_2 l0_2.length c0_2] 24 (0, 0)) zay2 hb); have n1_ := Aside0.mk (blk_below (g := gb1460) (o := .cells #[.int .i64 a1_0, .int .i64 a1_1] 26 (0, 0)) zay4 hb); have n2_ := Aside0.mk (below_step zay6 hb); clear BK1459; clear BK1460; clear HB; have BK1459 := n0_; have BK1460 := n1_; have HB := n2_; clear n0_ n1_ n2_; (try clear hb); (try clear hb2); (try clear hk); (try clear hi); (try clear hna_); (try clear hnb_)))
 have n0_ := Aside0.mk (blk_drew BK1459.out)
 have n1_ := Aside0.mk (blk_drew BK1460.out)
 have n2_ := Aside0.mk (below_drew1 HB.out)
 clear BK1459
 clear BK1460
 clear HB
 have BK1459 := n0_
 have BK1460 := n1_
 have HB := n2_
 clear n0_ n1_ n2_
 refine start_ (n := 13) (S := fun w' => w'.cell? ⟨gb1459, 0, none⟩ = some (.int .i64 a0_0) ∧ w'.cell? ⟨gb1459, 1, none⟩ = some (.int .i64 a0_1) ∧ w'.cell? ⟨gb1459, 2, none⟩ = some (.slice A0_2 l0_2.length c0_2) ∧ w'.cell? ⟨gb1460, 0, none⟩ = some (.int .i64 a1_0) ∧ w'.cell? ⟨gb1460, 1, none⟩ = some (.int .i64 a1_1)) (ds := []) #[false, false, false, false, false, false, false, false, false, false, false, false, false] (by kernel_rfl) rfl rfl ⟨(blk_cell BK1459.out 0).trans rfl, (blk_cell BK1459.out 1).trans rfl, (blk_cell BK1459.out 2).trans rfl, (blk_cell BK1460.out 0).trans rfl, (blk_cell BK1460.out 1).trans rfl⟩ (fun hHeld => ?_); refine with_tabW laws_FnExactSpinTour.tab7 laws_FnExactSpinTour.bits7 (fun HT_ HW_ => ?_)
 generalize w28.drew = w29 at BK1459 BK1460 HB hHeld ⊢
 refine pure_ (i := 4) (N := some 34) (v := ?_) (a' := ?_) #[false, false, false, false, true, false, false, false, false, false, false, false, false] rfl rfl (any_of HT_.out (by kernel_rfl)) (fun _ _ _ h => h) (Or.inl ⟨by rfl, ?_⟩) ?_ ?_
 rotate_left
 ·intro w'
  go_simp
  with_reducible rfl
 rotate_left
 ·simp only [Act.put, List.setIfInBounds_toArray, List.set_cons_zero, List.set_cons_succ, i64_w, i32_w]
  rfl
 refine pure_ (i := 6) (N := some 36) (v := ?_) (a' := ?_) #[false, false, false, false, true, false, true, false, false, false, false, false, false] rfl rfl (any_of HT_.out (by kernel_rfl)) (fun _ _ _ h => h) (Or.inl ⟨by rfl, ?_⟩) ?_ ?_
 rotate_left
 ·intro w'
  go_simp
  with_reducible rfl
 rotate_left
 ·simp only [Act.put, List.setIfInBounds_toArray, List.set_cons_zero, List.set_cons_succ, i64_w, i32_w]
  rfl
 refine take_ (i := 0) (N := some 30) (v := ?_) (a' := ?_) #[true, false, false, false, true, false, true, false, false, false, false, false, false] rfl rfl (take_ofW HT_.out HW_.out (by kernel_rfl)) (fun _ _ _ h => h) (Or.inl ⟨by rfl, ?_⟩) hHeld ?_ ?_
 rotate_left
 ·rintro w' ⟨s0, s1, s2, s3, s4⟩
  go_simp
  with_reducible rfl
 rotate_left
 ·simp only [Act.put, List.setIfInBounds_toArray, List.set_cons_zero, List.set_cons_succ, i64_w, i32_w]
  rfl
 refine take_ (i := 2) (N := some 32) (v := ?_) (a' := ?_) #[true, false, true, false, true, false, true, false, false, false, false, false, false] rfl rfl (take_ofW HT_.out HW_.out (by kernel_rfl)) (fun _ _ _ h => h) (Or.inl ⟨by rfl, ?_⟩) hHeld ?_ ?_
 rotate_left
 ·rintro w' ⟨s0, s1, s2, s3, s4⟩
  go_simp
  with_reducible rfl
 rotate_left
 ·simp only [Act.put, List.setIfInBounds_toArray, List.set_cons_zero, List.set_cons_succ, i64_w, i32_w]
  rfl
 refine one_ (i := 1) (N := some 31) #[true, true, true, false, true, false, true, false, false, false, false, false, false] rfl rfl (one_of HT_.out (by kernel_rfl)) (by decide) (fun K hK => ?_)
 refine goes_ Try.func17 (by kernel_rfl) rfl #[.agg #[.int .i64 a0_0, .int .i64 a0_1, .slice A0_2 l0_2.length c0_2]] (by rfl) rfl rfl zay3 ?_
 with_reducible refine (laws_toBoard.calls k a0_0 a0_1 _ _ l0_2 t1462 t1463 t1464 _ ?side1 ?side2 A15.out).mono ?_
 (case side1 => exact zay13)
 (case side2 => exact HC0_2.out)
 rintro e w30 ⟨v1465, rfl, ho0, hb⟩
 refine ⟨_, rfl, ?_⟩
 have n0_ := Aside0.mk (Kd.R_lower ho0 (below_size zay6))
 have n1_ := Aside0.mk (blk_below (g := gb1459) (o := .cells #[.int .i64 a0_0, .int .i64 a0_1, .slice A0_2 l0_2.length c0_2] 24 (0, 0)) zay2 hb)
 have n2_ := Aside0.mk (blk_below (g := gb1460) (o := .cells #[.int .i64 a1_0, .int .i64 a1_1] 26 (0, 0)) zay4 hb)
 have n3_ := Aside0.mk (below_step zay6 hb)
 clear BK1459
 clear BK1460
 clear HB
 have HO1466 := n0_
 have BK1459 := n1_
 have BK1460 := n2_
 have HB := n3_
 clear n0_ n1_ n2_ n3_
 (try clear hb)
 (try clear hb2)
 (try clear hk)
 (try clear hi)
 (try clear ho0)
 (try clear hna_)
 (try clear hnb_)
 refine hK.out _ _ ⟨(blk_cell BK1459.out 0).trans rfl, (blk_cell BK1459.out 1).trans rfl, (blk_cell BK1459.out 2).trans rfl, (blk_cell BK1460.out 0).trans rfl, (blk_cell BK1460.out 1).trans rfl⟩ (fun hHeld => ?_)
 clear hK K
 refine norm_ (a' := ?_) ?_ ?_
 rotate_left
 ·show Act.put _ (some 31) _ = _
  simp only [Act.put, List.setIfInBounds_toArray, List.set_cons_zero, List.set_cons_succ, i64_w, i32_w]
  rfl
 refine one_ (i := 3) (N := some 33) #[true, true, true, true, true, false, true, false, false, false, false, false, false] rfl rfl (one_of HT_.out (by kernel_rfl)) (by decide) (fun K hK => ?_)
 refine goes_ Try.func18 (by kernel_rfl) rfl #[.agg #[.int .i64 a1_0, .int .i64 a1_1]] (by rfl) rfl rfl zay3 ?_
 with_reducible refine (laws_toLeaper.calls a1_0 a1_1 t1467 t1468 _ A16.out).mono ?_
 rintro e w31 ⟨rfl, hb⟩
 refine ⟨_, rfl, ?_⟩
 have n0_ := Aside0.mk (Kd.R_below zay16 hb)
 have n1_ := Aside0.mk (blk_below (g := gb1459) (o := .cells #[.int .i64 a0_0, .int .i64 a0_1, .slice A0_2 l0_2.length c0_2] 24 (0, 0)) zay2 hb)
 have n2_ := Aside0.mk (blk_below (g := gb1460) (o := .cells #[.int .i64 a1_0, .int .i64 a1_1] 26 (0, 0)) zay4 hb)
 have n3_ := Aside0.mk (below_step zay6 hb)
 clear HO1466
 clear BK1459
 clear BK1460
 clear HB
 have HO1466 := n0_
 have BK1459 := n1_
 have BK1460 := n2_
 have HB := n3_
 clear n0_ n1_ n2_ n3_
 (try clear hb)
 (try clear hb2)
 (try clear hk)
 (try clear hi)
 (try clear hna_)
 (try clear hnb_)
 refine hK.out _ _ ⟨(blk_cell BK1459.out 0).trans rfl, (blk_cell BK1459.out 1).trans rfl, (blk_cell BK1459.out 2).trans rfl, (blk_cell BK1460.out 0).trans rfl, (blk_cell BK1460.out 1).trans rfl⟩ (fun hHeld => ?_)
 clear hK K
 refine norm_ (a' := ?_) ?_ ?_
 rotate_left
 ·show Act.put _ (some 33) _ = _
  simp only [Act.put, List.setIfInBounds_toArray, List.set_cons_zero, List.set_cons_succ, i64_w, i32_w]
  rfl
 refine one_ (i := 5) (N := some 35) #[true, true, true, true, true, true, true, false, false, false, false, false, false] rfl rfl (one_of HT_.out (by kernel_rfl)) (by decide) (fun K hK => ?_)
 refine goes_ Try.func19 (by kernel_rfl) rfl #[.slice A2 l2.length c2] (by rfl) rfl rfl zay3 ?_
 with_reducible refine (laws_toIntS.calls k _ _ l2 t1469 _ ?side1 ?side2 A17.out).mono ?_
 (case side1 => exact zay22)
 (case side2 => exact HC2.out)
 rintro e w32 ⟨v1470, rfl, ho0, hb⟩
 refine ⟨_, rfl, ?_⟩
 have n0_ := Aside0.mk (Kd.R_elder' zay16 (Kd.R_base ho0) hb)
 have n1_ := Aside0.mk (Kd.R_lower (Kd.R_new' ho0 (Kd.R_lt zay16)) (below_size zay6))
 have n2_ := Aside0.mk (blk_below (g := gb1459) (o := .cells #[.int .i64 a0_0, .int .i64 a0_1, .slice A0_2 l0_2.length c0_2] 24 (0, 0)) zay2 hb)
 have n3_ := Aside0.mk (blk_below (g := gb1460) (o := .cells #[.int .i64 a1_0, .int .i64 a1_1] 26 (0, 0)) zay4 hb)
 have n4_ := Aside0.mk (below_step zay6 hb)
 clear HO1466
 clear BK1459
 clear BK1460
 clear HB
 have HO1466 := n0_
 have HO1471 := n1_
 have BK1459 := n2_
 have BK1460 := n3_
 have HB := n4_
 clear n0_ n1_ n2_ n3_ n4_
 (try clear hb)
 (try clear hb2)
 (try clear hk)
 (try clear hi)
 (try clear ho0)
 (try clear hna_)
 (try clear hnb_)
 obtain ⟨Ao33, co33, eo33⟩ := Kd.R_slice HO1466.out
 (first | subst eo33 | (injection eo33 with f1_ f2_ f3_; have f4_ := f1_.symm; have f5_ := f3_.symm; clear f1_ f2_ f3_; subst f4_; subst f5_))
 obtain ⟨Ao34, co34, eo34⟩ := Kd.R_slice HO1471.out
 (first | subst eo34 | (injection eo34 with f1_ f2_ f3_; have f4_ := f1_.symm; have f5_ := f3_.symm; clear f1_ f2_ f3_; subst f4_; subst f5_))
 refine hK.out _ _ ⟨(blk_cell BK1459.out 0).trans rfl, (blk_cell BK1459.out 1).trans rfl, (blk_cell BK1459.out 2).trans rfl, (blk_cell BK1460.out 0).trans rfl, (blk_cell BK1460.out 1).trans rfl⟩ (fun hHeld => ?_)
 clear hK K
 refine norm_ (a' := ?_) ?_ ?_
 rotate_left
 ·show Act.put _ (some 35) _ = _
  simp only [Act.put, List.setIfInBounds_toArray, List.set_cons_zero, List.set_cons_succ, i64_w, i32_w]
  rfl
 refine one_ (i := 7) (N := some 37) #[true, true, true, true, true, true, true, true, false, false, false, false, false] rfl rfl (one_of HT_.out (by kernel_rfl)) (by decide) (fun K hK => ?_)
 refine goes_ Try.func46 (by kernel_rfl) rfl #[.agg #[.int .i64 t1462, .int .i64 t1463, .slice Ao33 t1464.length co33], .agg #[.int .i64 t1467, .int .i64 t1468], .slice Ao34 t1469.length co34, .int .i64 a3] (by rfl) rfl rfl zay3 ?_
 with_reducible refine (spec_SpinTour.calls k t1462 t1463 _ _ t1464 t1467 t1468 _ _ t1469 a3 t1472 t1475 _ ?side1 ?side2 ?side3 ?side4 A18.out).mono ?_
 (case side1 => repeat (first | exact (Kd.R_reads' HO1466.out).2.2 | (with_reducible refine Kd.C_alloc ?_ _) | (with_reducible refine Kd.C_drewN ?_ _) | (with_reducible refine Kd.C_drew ?_)))
 (case side2 => exact (Kd.R_reads' HO1466.out).2.1)
 (case side3 => repeat (first | exact (Kd.R_reads' HO1471.out).2.2 | (with_reducible refine Kd.C_alloc ?_ _) | (with_reducible refine Kd.C_drewN ?_ _) | (with_reducible refine Kd.C_drew ?_)))
 (case side4 => exact (Kd.R_reads' HO1471.out).2.1)
 rintro e w35 ⟨v1473, rfl, ho0, hb⟩
 refine ⟨_, rfl, ?_⟩
 have n0_ := Aside0.mk (Kd.R_elder' zay16 (Kd.R_base ho0) hb)
 have n1_ := Aside0.mk (Kd.R_elder' zay18 (Kd.R_base ho0) hb)
 have n2_ := Aside0.mk (Kd.R_lower (Kd.R_new' (Kd.R_new' ho0 (Kd.R_lt zay16)) (Kd.R_lt zay18)) (below_size zay6))
 have n3_ := Aside0.mk (blk_below (g := gb1459) (o := .cells #[.int .i64 a0_0, .int .i64 a0_1, .slice A0_2 l0_2.length c0_2] 24 (0, 0)) zay2 hb)
 have n4_ := Aside0.mk (blk_below (g := gb1460) (o := .cells #[.int .i64 a1_0, .int .i64 a1_1] 26 (0, 0)) zay4 hb)
 have n5_ := Aside0.mk (below_step zay6 hb)
 clear HO1466
 clear HO1471
 clear BK1459
 clear BK1460
 clear HB
 have HO1466 := n0_
 have HO1471 := n1_
 have HO1474 := n2_
 have BK1459 := n3_
 have BK1460 := n4_
 have HB := n5_
 clear n0_ n1_ n2_ n3_ n4_ n5_
 (try clear hb)
 (try clear hb2)
 (try clear hk)
 (try clear hi)
 (try clear ho0)
 (try clear hna_)
 (try clear hnb_)
 refine hK.out _ _ ⟨(blk_cell BK1459.out 0).trans rfl, (blk_cell BK1459.out 1).trans rfl, (blk_cell BK1459.out 2).trans rfl, (blk_cell BK1460.out 0).trans rfl, (blk_cell BK1460.out 1).trans rfl⟩ (fun hHeld => ?_)
 clear hK K
 refine norm_ (a' := ?_) ?_ ?_
 rotate_left
 ·show Act.put _ (some 37) _ = _
  simp only [Act.put, List.setIfInBounds_toArray, List.set_cons_zero, List.set_cons_succ, i64_w, i32_w]
  rfl
 refine pure_ (i := 8) (N := some 29) (v := ?_) (a' := ?_) #[true, true, true, true, true, true, true, true, true, false, false, false, false] rfl rfl (any_of HT_.out (by kernel_rfl)) (fun _ _ _ h => h) (Or.inl ⟨by rfl, ?_⟩) ?_ ?_
 rotate_left
 ·intro w'
  go_simp
  with_reducible rfl
 rotate_left
 ·simp only [Act.put, List.setIfInBounds_toArray, List.set_cons_zero, List.set_cons_succ, i64_w, i32_w]
  rfl
 refine pure_ (i := 9) (N := some 38) (v := ?_) (a' := ?_) #[true, true, true, true, true, true, true, true, true, true, false, false, false] rfl rfl (any_of HT_.out (by kernel_rfl)) (fun _ _ _ h => h) (Or.inl ⟨by rfl, ?_⟩) ?_ ?_
 rotate_left
 ·intro w'
  go_simp
  with_reducible rfl
 rotate_left
 ·simp only [Act.put, List.setIfInBounds_toArray, List.set_cons_zero, List.set_cons_succ, i64_w, i32_w]
  rfl
 refine pure_ (i := 10) (N := some 39) (v := ?_) (a' := ?_) #[true, true, true, true, true, true, true, true, true, true, true, false, false] rfl rfl (any_of HT_.out (by kernel_rfl)) (fun _ _ _ h => h) (Or.inl ⟨by rfl, ?_⟩) ?_ ?_
 rotate_left
 ·intro w'
  go_simp
  with_reducible rfl
 rotate_left
 ·simp only [Act.put, List.setIfInBounds_toArray, List.set_cons_zero, List.set_cons_succ, i64_w, i32_w]
  rfl
 refine pure_ (i := 11) (N := some 10) (v := ?_) (a' := ?_) #[true, true, true, true, true, true, true, true, true, true, true, true, false] rfl rfl (any_of HT_.out (by kernel_rfl)) (fun _ _ _ h => h) (Or.inl ⟨by rfl, ?_⟩) ?_ ?_
 rotate_left
 ·intro w'
  go_simp
  with_reducible rfl
 rotate_left
 ·simp only [Act.put, List.setIfInBounds_toArray, List.set_cons_zero, List.set_cons_succ, i64_w, i32_w]
  rfl
 refine pure_ (i := 12) (N := some 11) (v := ?_) (a' := ?_) #[true, true, true, true, true, true, true, true, true, true, true, true, true] rfl rfl (any_of HT_.out (by kernel_rfl)) (fun _ _ _ h => h) (Or.inl ⟨by rfl, ?_⟩) ?_ ?_
 rotate_left
 ·intro w'
  go_simp
  with_reducible rfl
 rotate_left
 ·simp only [Act.put, List.setIfInBounds_toArray, List.set_cons_zero, List.set_cons_succ, i64_w, i32_w]
  rfl
 refine done_ (done_of HT_.out (by kernel_rfl)) ?_
 have hcz36_0 : w35.cell? ⟨gb1459, 0, none⟩ = some (.int .i64 a0_0) := (blk_cell BK1459.out 0).trans rfl
 have hcz36_1 : w35.cell? ⟨gb1459, 1, none⟩ = some (.int .i64 a0_1) := (blk_cell BK1459.out 1).trans rfl
 have hcz36_2 : w35.cell? ⟨gb1459, 2, none⟩ = some (.slice A0_2 l0_2.length c0_2) := (blk_cell BK1459.out 2).trans rfl
 have hfz36_0 := blk_frozen BK1459.out 0
 have hfz36_1 := blk_frozen BK1459.out 1
 have hfz36_2 := blk_frozen BK1459.out 2
 try go_wp2_with (first | ((with_reducible refine gate_callee (f := 17) rfl ?_); refine goesL_ (some 41) rfl rfl Try.func17 (by kernel_rfl) rfl #[.agg #[.int .i64 a0_0, .int .i64 a0_1, .slice A0_2 l0_2.length c0_2]] rfl zay3 ?_; (with_reducible refine (laws_toBoard.calls k a0_0 a0_1 _ _ l0_2 t1476 t1477 t1478 _ ?side1 ?side2 A19.out).mono ?_); (case side1 => exact zay13); (case side2 => exact HC0_2.out); rintro e w37 ⟨v1479, rfl, ho0, hb⟩; refine ⟨_, rfl, ?_⟩; have n0_ := Aside0.mk (Kd.R_elder' zay16 (Kd.R_base ho0) hb); have n1_ := Aside0.mk (Kd.R_elder' zay18 (Kd.R_base ho0) hb); have n2_ := Aside0.mk (Kd.R_elder' zay20 (Kd.R_base ho0) hb); have n3_ := Aside0.mk (Kd.R_lower (Kd.R_new' (Kd.R_new' (Kd.R_new' ho0 (Kd.R_lt zay16)) (Kd.R_lt zay18)) (Kd.R_lt zay20)) (below_size zay6)); have n4_ := Aside0.mk (blk_below (g := gb1459) (o := .cells #[.int .i64 a0_0, .int .i64 a0_1, .slice A0_2 l0_2.length c0_2] 24 (0, 0)) zay2 hb); have n5_ := Aside0.mk (blk_below (g := gb1460) (o := .cells #[.int .i64 a1_0, .int .i64 a1_1] 26 (0, 0)) zay4 hb); have n6_ := Aside0.mk (below_step zay6 hb); clear HO1466; clear HO1471; clear HO1474; clear BK1459; clear BK1460; clear HB; have HO1466 := n0_; have HO1471 := n1_; have HO1474 := n2_; have HO1480 := n3_; have BK1459 := n4_; have BK1460 := n5_; have HB := n6_; clear n0_ n1_ n2_ n3_ n4_ n5_ n6_; (try clear hb); (try clear hb2); (try clear hk); (try clear hi); (try clear ho0); (try clear hna_); (try clear hnb_)) | ((with_reducible refine gate_dst (N := 12) rfl ?_); refine box_event ?hg (N := 12) ?hd (cs := #[.int .i64 0, .int .i64 0, .slice none 0 0]) (t := 30) ?hr ?_; (case hd => rfl); (case hg => rfl); (case hr => first | (go_simp; done) | (go_simp; rfl)); intro gb1481 hg w38 hbox hb; have n0_ := Aside0.mk (Kd.R_below zay16 hb); have n1_ := Aside0.mk (Kd.R_below zay18 hb); have n2_ := Aside0.mk (Kd.R_below zay20 hb); have n3_ := Aside0.mk (Kd.R_below zay31 hb); have n4_ := Aside0.mk (blk_below (g := gb1459) (o := .cells #[.int .i64 a0_0, .int .i64 a0_1, .slice A0_2 l0_2.length c0_2] 24 (0, 0)) zay2 hb); have n5_ := Aside0.mk (blk_below (g := gb1460) (o := .cells #[.int .i64 a1_0, .int .i64 a1_1] 26 (0, 0)) zay4 hb); have n6_ := Aside0.mk (below_step zay6 hb); have n7_ := Aside0.mk (hbox); have n8_ := Aside0.mk ((by rw [hg]; exact (below_size zay6) : w.heap.size ≤ gb1481)); have n9_ := Aside0.mk ((by rw [hg]; exact (below_size zay6) : w.heap.size ≤ gb1481)); have n10_ := Aside0.mk ((zay52 : gb1459 ≠ gb1481)); have n11_ := Aside0.mk ((zay53 : gb1481 ≠ gb1459)); have n12_ := Aside0.mk ((by rw [hg]; exact Nat.ne_of_lt (blk_lt (g := gb1460) (o := .cells #[.int .i64 a1_0, .int .i64 a1_1] 26 (0, 0)) zay4) : gb1460 ≠ gb1481)); have n13_ := Aside0.mk ((by rw [hg]; exact Nat.ne_of_gt (blk_lt (g := gb1460) (o := .cells #[.int .i64 a1_0, .int .i64 a1_1] 26 (0, 0)) zay4) : gb1481 ≠ gb1460)); clear HO1466; clear HO1471; clear HO1474; clear HO1480; clear BK1459; clear BK1460; clear HB; have HO1466 := n0_; have HO1471 := n1_; have HO1474 := n2_; have HO1480 := n3_; have BK1459 := n4_; have BK1460 := n5_; have HB := n6_; have BK1481 := n7_; have GW1481 := n8_; have GE1481 := n9_; have NB1459_1481 := n10_; have NB1481_1459 := n11_; have NB1460_1481 := n12_; have NB1481_1460 := n13_; clear n0_ n1_ n2_ n3_ n4_ n5_ n6_ n7_ n8_ n9_ n10_ n11_ n12_ n13_; clear hb hbox hg; have hnb39 := NB1481_1459.out; have hnc39 := NB1459_1481.out; have hnb40 := NB1481_1460.out; have hnc40 := NB1460_1481.out; have hcz41_0 : w38.cell? ⟨gb1481, 0, none⟩ = some (.int .i64 0) := (blk_cell BK1481.out 0).trans rfl; have hcz41_1 : w38.cell? ⟨gb1481, 1, none⟩ = some (.int .i64 0) := (blk_cell BK1481.out 1).trans rfl; have hcz41_2 : w38.cell? ⟨gb1481, 2, none⟩ = some (.slice none 0 0) := (blk_cell BK1481.out 2).trans rfl; have hfz41_0 := blk_frozen BK1481.out 0; have hfz41_1 := blk_frozen BK1481.out 1; have hfz41_2 := blk_frozen BK1481.out 2; obtain ⟨Ao42, co42, eo42⟩ := Kd.R_slice HO1480.out; subst eo42) | ((with_reducible refine gate_callee (f := 19) rfl ?_); refine goesL_ (some 43) rfl rfl Try.func19 (by kernel_rfl) rfl #[.slice A2 l2.length c2] rfl zay3 ?_; (with_reducible refine (laws_toIntS.calls k _ _ l2 t1482 _ ?side1 ?side2 A20.out).mono ?_); (case side1 => exact Kd.C_below HR2.out zay1); (case side2 => exact HC2.out); rintro e w43 ⟨v1483, rfl, ho0, hb⟩; refine ⟨_, rfl, ?_⟩; have n0_ := Aside0.mk (Kd.R_elder' zay27 (Kd.R_base ho0) hb); have n1_ := Aside0.mk (Kd.R_elder' zay26 (Kd.R_base ho0) hb); have n2_ := Aside0.mk (Kd.R_elder' zay25 (Kd.R_base ho0) hb); have n3_ := Aside0.mk (Kd.R_elder' zay24 (Kd.R_base ho0) hb); have n4_ := Aside0.mk (Kd.R_lower (Kd.R_new' (Kd.R_new' (Kd.R_new' (Kd.R_new' ho0 (Kd.R_lt zay27)) (Kd.R_lt zay26)) (Kd.R_lt zay25)) (Kd.R_lt zay24)) (below_size zay1)); have n5_ := Aside0.mk (blk_below (g := gb1459) (o := .cells #[.int .i64 a0_0, .int .i64 a0_1, .slice A0_2 l0_2.length c0_2] 24 (0, 0)) (by (with_reducible repeat (first | refine blk_drewN ?_ _ | refine blk_drew ?_ | refine blk_alloc ?_ _)); refine blk_far ?_ NB1459_1481.out _; (with_reducible repeat (first | refine blk_drewN ?_ _ | refine blk_drew ?_ | refine blk_alloc ?_ _)); refine blk_far ?_ NB1459_1481.out _; (with_reducible repeat (first | refine blk_drewN ?_ _ | refine blk_drew ?_ | refine blk_alloc ?_ _)); refine blk_far ?_ NB1459_1481.out _; first | exact BK1459.out | ((with_reducible repeat (first | refine blk_drewN ?_ _ | refine blk_drew ?_ | refine blk_alloc ?_ _)); exact BK1459.out)) hb); have n6_ := Aside0.mk (blk_below (g := gb1460) (o := .cells #[.int .i64 a1_0, .int .i64 a1_1] 26 (0, 0)) (by (with_reducible repeat (first | refine blk_drewN ?_ _ | refine blk_drew ?_ | refine blk_alloc ?_ _)); refine blk_far ?_ NB1460_1481.out _; (with_reducible repeat (first | refine blk_drewN ?_ _ | refine blk_drew ?_ | refine blk_alloc ?_ _)); refine blk_far ?_ NB1460_1481.out _; (with_reducible repeat (first | refine blk_drewN ?_ _ | refine blk_drew ?_ | refine blk_alloc ?_ _)); refine blk_far ?_ NB1460_1481.out _; first | exact BK1460.out | ((with_reducible repeat (first | refine blk_drewN ?_ _ | refine blk_drew ?_ | refine blk_alloc ?_ _)); exact BK1460.out)) hb); have n7_ := Aside0.mk (blk_below (g := gb1481) (o := .cells #[.int .i64 t1476, .int .i64 t1477, .slice Ao42 t1478.length co42] 30 (0, 0)) (by (with_reducible repeat (first | refine blk_drewN ?_ _ | refine blk_drew ?_ | refine blk_alloc ?_ _)); refine blk_put (cs := #[.int .i64 t1476, .int .i64 t1477, .slice none 0 0]) ?_ 2 _ rfl; (with_reducible repeat (first | refine blk_drewN ?_ _ | refine blk_drew ?_ | refine blk_alloc ?_ _)); refine blk_put (cs := #[.int .i64 t1476, .int .i64 0, .slice none 0 0]) ?_ 1 _ rfl; (with_reducible repeat (first | refine blk_drewN ?_ _ | refine blk_drew ?_ | refine blk_alloc ?_ _)); refine blk_put (cs := #[.int .i64 0, .int .i64 0, .slice none 0 0]) ?_ 0 _ rfl; first | exact BK1481.out | ((with_reducible repeat (first | refine blk_drewN ?_ _ | refine blk_drew ?_ | refine blk_alloc ?_ _)); exact BK1481.out)) hb); have n8_ := Aside0.mk (below_step zay1 hb); clear HO1466; clear HO1471; clear HO1474; clear HO1480; clear BK1459; clear BK1460; clear BK1481; clear HB; have HO1466 := n0_; have HO1471 := n1_; have HO1474 := n2_; have HO1480 := n3_; have HO1484 := n4_; have BK1459 := n5_; have BK1460 := n6_; have BK1481 := n7_; have HB := n8_; clear n0_ n1_ n2_ n3_ n4_ n5_ n6_ n7_ n8_; (try clear hb); (try clear hb2); (try clear hk); (try clear hi); (try clear ho0); (try clear hna_); (try clear hnb_)))
 have n0_ := Aside0.mk (Kd.R_drew HO1466.out)
 have n1_ := Aside0.mk (Kd.R_drew HO1471.out)
 have n2_ := Aside0.mk (Kd.R_drew HO1474.out)
 have n3_ := Aside0.mk (Kd.R_drew HO1480.out)
 have n4_ := Aside0.mk (Kd.R_drew HO1484.out)
 have n5_ := Aside0.mk (blk_drew BK1459.out)
 have n6_ := Aside0.mk (blk_drew BK1460.out)
 have n7_ := Aside0.mk (blk_drew BK1481.out)
 have n8_ := Aside0.mk (below_drew1 HB.out)
 clear HO1466
 clear HO1471
 clear HO1474
 clear HO1480
 clear HO1484
 clear BK1459
 clear BK1460
 clear BK1481
 clear HB
 have HO1466 := n0_
 have HO1471 := n1_
 have HO1474 := n2_
 have HO1480 := n3_
 have HO1484 := n4_
 have BK1459 := n5_
 have BK1460 := n6_
 have BK1481 := n7_
 have HB := n8_
 clear n0_ n1_ n2_ n3_ n4_ n5_ n6_ n7_ n8_
 refine start_ (n := 11) (S := fun w' => w'.cell? ⟨gb1481, 0, none⟩ = some (.int .i64 t1476) ∧ w'.cell? ⟨gb1481, 1, none⟩ = some (.int .i64 t1477) ∧ w'.cell? ⟨gb1481, 2, none⟩ = some (.slice Ao42 t1478.length co42) ∧ w'.cell? ⟨gb1460, 0, none⟩ = some (.int .i64 a1_0) ∧ w'.cell? ⟨gb1460, 1, none⟩ = some (.int .i64 a1_1)) (ds := []) #[false, false, false, false, false, false, false, false, false, false, false] (by kernel_rfl) rfl rfl ⟨(blk_cell BK1481.out 0).trans rfl, (blk_cell BK1481.out 1).trans rfl, (blk_cell BK1481.out 2).trans rfl, (blk_cell BK1460.out 0).trans rfl, (blk_cell BK1460.out 1).trans rfl⟩ (fun hHeld => ?_); refine with_tabW laws_FnExactSpinTour.tab10 laws_FnExactSpinTour.bits10 (fun HT_ HW_ => ?_)
 generalize w43.drew = w44 at HO1466 HO1471 HO1474 HO1480 HO1484 BK1459 BK1460 BK1481 HB hHeld ⊢
 refine pure_ (i := 3) (N := some 48) (v := ?_) (a' := ?_) #[false, false, false, true, false, false, false, false, false, false, false] rfl rfl (any_of HT_.out (by kernel_rfl)) (fun _ _ _ h => h) (Or.inl ⟨by rfl, ?_⟩) ?_ ?_
 rotate_left
 ·intro w'
  go_simp
  with_reducible rfl
 rotate_left
 ·simp only [Act.put, List.setIfInBounds_toArray, List.set_cons_zero, List.set_cons_succ, i64_w, i32_w]
  rfl
 refine pure_ (i := 4) (N := some 49) (v := ?_) (a' := ?_) #[false, false, false, true, true, false, false, false, false, false, false] rfl rfl (any_of HT_.out (by kernel_rfl)) (fun _ _ _ h => h) (Or.inl ⟨by rfl, ?_⟩) ?_ ?_
 rotate_left
 ·intro w'
  go_simp
  with_reducible rfl
 rotate_left
 ·simp only [Act.put, List.setIfInBounds_toArray, List.set_cons_zero, List.set_cons_succ, i64_w, i32_w]
  rfl
 refine take_ (i := 0) (N := some 45) (v := ?_) (a' := ?_) #[true, false, false, true, true, false, false, false, false, false, false] rfl rfl (take_ofW HT_.out HW_.out (by kernel_rfl)) (fun _ _ _ h => h) (Or.inl ⟨by rfl, ?_⟩) hHeld ?_ ?_
 rotate_left
 ·rintro w' ⟨s0, s1, s2, s3, s4⟩
  go_simp
  with_reducible rfl
 rotate_left
 ·simp only [Act.put, List.setIfInBounds_toArray, List.set_cons_zero, List.set_cons_succ, i64_w, i32_w]
  rfl
 refine take_ (i := 1) (N := some 46) (v := ?_) (a' := ?_) #[true, true, false, true, true, false, false, false, false, false, false] rfl rfl (take_ofW HT_.out HW_.out (by kernel_rfl)) (fun _ _ _ h => h) (Or.inl ⟨by rfl, ?_⟩) hHeld ?_ ?_
 rotate_left
 ·rintro w' ⟨s0, s1, s2, s3, s4⟩
  go_simp
  with_reducible rfl
 rotate_left
 ·simp only [Act.put, List.setIfInBounds_toArray, List.set_cons_zero, List.set_cons_succ, i64_w, i32_w]
  rfl
 refine one_ (i := 2) (N := some 47) #[true, true, true, true, true, false, false, false, false, false, false] rfl rfl (one_of HT_.out (by kernel_rfl)) (by decide) (fun K hK => ?_)
 refine goes_ Try.func18 (by kernel_rfl) rfl #[.agg #[.int .i64 a1_0, .int .i64 a1_1]] (by rfl) rfl rfl zay3 ?_
 with_reducible refine (laws_toLeaper.calls a1_0 a1_1 t1485 t1486 _ A21.out).mono ?_
 rintro e w45 ⟨rfl, hb⟩
 refine ⟨_, rfl, ?_⟩
 have n0_ := Aside0.mk (Kd.R_below zay16 hb)
 have n1_ := Aside0.mk (Kd.R_below zay18 hb)
 have n2_ := Aside0.mk (Kd.R_below zay20 hb)
 have n3_ := Aside0.mk (Kd.R_below zay31 hb)
 have n4_ := Aside0.mk (Kd.R_below zay36 hb)
 have n5_ := Aside0.mk (blk_below (g := gb1459) (o := .cells #[.int .i64 a0_0, .int .i64 a0_1, .slice A0_2 l0_2.length c0_2] 24 (0, 0)) zay2 hb)
 have n6_ := Aside0.mk (blk_below (g := gb1460) (o := .cells #[.int .i64 a1_0, .int .i64 a1_1] 26 (0, 0)) zay4 hb)
 have n7_ := Aside0.mk (blk_below (g := gb1481) (o := .cells #[.int .i64 t1476, .int .i64 t1477, .slice Ao42 t1478.length co42] 30 (0, 0)) zay7 hb)
 have n8_ := Aside0.mk (below_step zay1 hb)
 clear HO1466
 clear HO1471
 clear HO1474
 clear HO1480
 clear HO1484
 clear BK1459
 clear BK1460
 clear BK1481
 clear HB
 have HO1466 := n0_
 have HO1471 := n1_
 have HO1474 := n2_
 have HO1480 := n3_
 have HO1484 := n4_
 have BK1459 := n5_
 have BK1460 := n6_
 have BK1481 := n7_
 have HB := n8_
 clear n0_ n1_ n2_ n3_ n4_ n5_ n6_ n7_ n8_
 (try clear hb)
 (try clear hb2)
 (try clear hk)
 (try clear hi)
 (try clear hna_)
 (try clear hnb_)
 obtain ⟨Ao46, co46, eo46⟩ := Kd.R_slice HO1484.out
 (first | subst eo46 | (injection eo46 with f1_ f2_ f3_; have f4_ := f1_.symm; have f5_ := f3_.symm; clear f1_ f2_ f3_; subst f4_; subst f5_))
 refine hK.out _ _ ⟨(blk_cell BK1481.out 0).trans rfl, (blk_cell BK1481.out 1).trans rfl, (blk_cell BK1481.out 2).trans rfl, (blk_cell BK1460.out 0).trans rfl, (blk_cell BK1460.out 1).trans rfl⟩ (fun hHeld => ?_)
 clear hK K
 refine norm_ (a' := ?_) ?_ ?_
 rotate_left
 ·show Act.put _ (some 47) _ = _
  simp only [Act.put, List.setIfInBounds_toArray, List.set_cons_zero, List.set_cons_succ, i64_w, i32_w]
  rfl
 refine one_ (i := 5) (N := some 50) #[true, true, true, true, true, true, false, false, false, false, false] rfl rfl (one_of HT_.out (by kernel_rfl)) (by decide) (fun K hK => ?_)
 refine goes_ Try.func47 (by kernel_rfl) rfl #[.agg #[.int .i64 t1476, .int .i64 t1477, .slice Ao42 t1478.length co42], .agg #[.int .i64 t1485, .int .i64 t1486], .slice Ao46 t1482.length co46, .int .i64 a3] (by rfl) rfl rfl zay3 ?_
 with_reducible refine (impl_SpinTour.calls k t1476 t1477 _ _ t1478 t1485 t1486 _ _ t1482 a3 t1487 t1490 _ ?side1 ?side2 ?side3 ?side4 A22.out).mono ?_
 (case side1 => repeat (first | exact (Kd.R_reads' HO1480.out).2.2 | (with_reducible refine Kd.C_alloc ?_ _) | (with_reducible refine Kd.C_drewN ?_ _) | (with_reducible refine Kd.C_drew ?_)))
 (case side2 => exact (Kd.R_reads' HO1480.out).2.1)
 (case side3 => repeat (first | exact (Kd.R_reads' HO1484.out).2.2 | (with_reducible refine Kd.C_alloc ?_ _) | (with_reducible refine Kd.C_drewN ?_ _) | (with_reducible refine Kd.C_drew ?_)))
 (case side4 => exact (Kd.R_reads' HO1484.out).2.1)
 rintro e w47 ⟨v1488, rfl, ho0, hb⟩
 refine ⟨_, rfl, ?_⟩
 have n0_ := Aside0.mk (Kd.R_elder' zay16 (Kd.R_base ho0) hb)
 have n1_ := Aside0.mk (Kd.R_elder' zay18 (Kd.R_base ho0) hb)
 have n2_ := Aside0.mk (Kd.R_elder' zay20 (Kd.R_base ho0) hb)
 have n3_ := Aside0.mk (Kd.R_elder' zay31 (Kd.R_base ho0) hb)
 have n4_ := Aside0.mk (Kd.R_elder' zay36 (Kd.R_base ho0) hb)
 have n5_ := Aside0.mk (Kd.R_lower (Kd.R_new' (Kd.R_new' (Kd.R_new' (Kd.R_new' (Kd.R_new' ho0 (Kd.R_lt zay16)) (Kd.R_lt zay18)) (Kd.R_lt zay20)) (Kd.R_lt zay31)) (Kd.R_lt zay36)) (below_size zay1))
 have n6_ := Aside0.mk (blk_below (g := gb1459) (o := .cells #[.int .i64 a0_0, .int .i64 a0_1, .slice A0_2 l0_2.length c0_2] 24 (0, 0)) zay2 hb)
 have n7_ := Aside0.mk (blk_below (g := gb1460) (o := .cells #[.int .i64 a1_0, .int .i64 a1_1] 26 (0, 0)) zay4 hb)
 have n8_ := Aside0.mk (blk_below (g := gb1481) (o := .cells #[.int .i64 t1476, .int .i64 t1477, .slice Ao42 t1478.length co42] 30 (0, 0)) zay7 hb)
 have n9_ := Aside0.mk (below_step zay1 hb)
 clear HO1466
 clear HO1471
 clear HO1474
 clear HO1480
 clear HO1484
 clear BK1459
 clear BK1460
 clear BK1481
 clear HB
 have HO1466 := n0_
 have HO1471 := n1_
 have HO1474 := n2_
 have HO1480 := n3_
 have HO1484 := n4_
 have HO1489 := n5_
 have BK1459 := n6_
 have BK1460 := n7_
 have BK1481 := n8_
 have HB := n9_
 clear n0_ n1_ n2_ n3_ n4_ n5_ n6_ n7_ n8_ n9_
 (try clear hb)
 (try clear hb2)
 (try clear hk)
 (try clear hi)
 (try clear ho0)
 (try clear hna_)
 (try clear hnb_)
 refine hK.out _ _ ⟨(blk_cell BK1481.out 0).trans rfl, (blk_cell BK1481.out 1).trans rfl, (blk_cell BK1481.out 2).trans rfl, (blk_cell BK1460.out 0).trans rfl, (blk_cell BK1460.out 1).trans rfl⟩ (fun hHeld => ?_)
 clear hK K
 refine norm_ (a' := ?_) ?_ ?_
 rotate_left
 ·show Act.put _ (some 50) _ = _
  simp only [Act.put, List.setIfInBounds_toArray, List.set_cons_zero, List.set_cons_succ, i64_w, i32_w]
  rfl
 refine pure_ (i := 6) (N := some 44) (v := ?_) (a' := ?_) #[true, true, true, true, true, true, true, false, false, false, false] rfl rfl (any_of HT_.out (by kernel_rfl)) (fun _ _ _ h => h) (Or.inl ⟨by rfl, ?_⟩) ?_ ?_
 rotate_left
 ·intro w'
  go_simp
  with_reducible rfl
 rotate_left
 ·simp only [Act.put, List.setIfInBounds_toArray, List.set_cons_zero, List.set_cons_succ, i64_w, i32_w]
  rfl
 refine pure_ (i := 7) (N := some 51) (v := ?_) (a' := ?_) #[true, true, true, true, true, true, true, true, false, false, false] rfl rfl (any_of HT_.out (by kernel_rfl)) (fun _ _ _ h => h) (Or.inl ⟨by rfl, ?_⟩) ?_ ?_
 rotate_left
 ·intro w'
  go_simp
  with_reducible rfl
 rotate_left
 ·simp only [Act.put, List.setIfInBounds_toArray, List.set_cons_zero, List.set_cons_succ, i64_w, i32_w]
  rfl
 refine pure_ (i := 8) (N := some 52) (v := ?_) (a' := ?_) #[true, true, true, true, true, true, true, true, true, false, false] rfl rfl (any_of HT_.out (by kernel_rfl)) (fun _ _ _ h => h) (Or.inl ⟨by rfl, ?_⟩) ?_ ?_
 rotate_left
 ·intro w'
  go_simp
  with_reducible rfl
 rotate_left
 ·simp only [Act.put, List.setIfInBounds_toArray, List.set_cons_zero, List.set_cons_succ, i64_w, i32_w]
  rfl
 refine pure_ (i := 9) (N := some 14) (v := ?_) (a' := ?_) #[true, true, true, true, true, true, true, true, true, true, false] rfl rfl (any_of HT_.out (by kernel_rfl)) (fun _ _ _ h => h) (Or.inl ⟨by rfl, ?_⟩) ?_ ?_
 rotate_left
 ·intro w'
  go_simp
  with_reducible rfl
 rotate_left
 ·simp only [Act.put, List.setIfInBounds_toArray, List.set_cons_zero, List.set_cons_succ, i64_w, i32_w]
  rfl
 refine pure_ (i := 10) (N := some 15) (v := ?_) (a' := ?_) #[true, true, true, true, true, true, true, true, true, true, true] rfl rfl (any_of HT_.out (by kernel_rfl)) (fun _ _ _ h => h) (Or.inl ⟨by rfl, ?_⟩) ?_ ?_
 rotate_left
 ·intro w'
  go_simp
  with_reducible rfl
 rotate_left
 ·simp only [Act.put, List.setIfInBounds_toArray, List.set_cons_zero, List.set_cons_succ, i64_w, i32_w]
  rfl
 refine done_ (done_of HT_.out (by kernel_rfl)) ?_
 go_upto_region 11 with (fail)
 go_cut [61] (fun v61 wc => ∃ (kq : Nat) (x61_22 : Bool), v61 = .bool x61_22 ∧ Aside0 (laws_FnExactSpinTour.j0 kq l2 a3 t1472 t1475 t1482 t1487 t1490 x61_22 a0_0 a0_1 l0_2 a1_0 a1_1 t1476 t1477 t1478 = some r) ∧ Aside0 (kq ≤ k) ∧ Aside0 (Kd.R (Kd.int .i64) 3 wc w.heap.size (fun k_ => some k_ ≠ ((.slice Ao46 t1482.length co46) : Value).ownBlock ∧ some k_ ≠ (v1488 : Value).ownBlock ∧ some k_ ≠ ((.slice Ao42 t1478.length co42) : Value).ownBlock) v1473 t1472) ∧ Aside0 (Kd.R (Kd.int .i64) 3 wc w.heap.size (fun k_ => some k_ ≠ (v1473 : Value).ownBlock ∧ some k_ ≠ (v1488 : Value).ownBlock ∧ some k_ ≠ ((.slice Ao42 t1478.length co42) : Value).ownBlock) (.slice Ao46 t1482.length co46) t1482) ∧ Aside0 (Kd.R (Kd.int .i64) 3 wc w.heap.size (fun k_ => some k_ ≠ (v1473 : Value).ownBlock ∧ some k_ ≠ ((.slice Ao46 t1482.length co46) : Value).ownBlock ∧ some k_ ≠ ((.slice Ao42 t1478.length co42) : Value).ownBlock) v1488 t1487) ∧ Aside0 (Kd.R (Kd.int .i64) 3 wc w.heap.size (fun k_ => some k_ ≠ (v1473 : Value).ownBlock ∧ some k_ ≠ ((.slice Ao46 t1482.length co46) : Value).ownBlock ∧ some k_ ≠ (v1488 : Value).ownBlock) (.slice Ao42 t1478.length co42) t1478) ∧ Aside0 (wc.heap[gb1459]? = some (.cells #[.int .i64 a0_0, .int .i64 a0_1, (.slice A0_2 l0_2.length c0_2)] 24 (0, 0))) ∧ Aside0 (wc.heap[gb1460]? = some (.cells #[.int .i64 a1_0, .int .i64 a1_1] 26 (0, 0))) ∧ Aside0 (wc.heap[gb1481]? = some (.cells #[.int .i64 t1476, .int .i64 t1477, (.slice Ao42 t1478.length co42)] 30 (0, 0))) ∧ Aside0 (Below w.heap.size w wc))
 case first =>
  have H := HC23.out
  clear HC23
  replace H := Option.bind_eq_some_iff.mp H
  obtain ⟨t1491, A480, H⟩ := H
  replace H : (if t1491 = true then (laws_FnExactSpinTour.j0 k l2 a3 t1472 t1475 t1482 t1487 t1490 (t1490 != t1475) a0_0 a0_1 l0_2 a1_0 a1_1 t1476 t1477 t1478) else (laws_FnExactSpinTour.j0 k l2 a3 t1472 t1475 t1482 t1487 t1490 true a0_0 a0_1 l0_2 a1_0 a1_1 t1476 t1477 t1478)) = some r := H
  have A48 := Aside0.mk A480
  clear A480
  by_cases c49 : t1491 = true
  ·subst c49
   have H1 : (laws_FnExactSpinTour.j0 k l2 a3 t1472 t1475 t1482 t1487 t1490 (t1490 != t1475) a0_0 a0_1 l0_2 a1_0 a1_1 t1476 t1477 t1478) = some r := by rw [if_pos rfl] at H; exact H
   clear H
   have H := H1
   clear H1
   have H' := Aside0.mk H
   clear H
   obtain ⟨Ao50, co50, eo50⟩ := Kd.R_slice HO1489.out
   subst eo50
   obtain ⟨Ao51, co51, eo51⟩ := Kd.R_slice HO1474.out
   subst eo51
   go_wp2_with (first | ((with_reducible refine gate_callee (f := 21) rfl ?_); refine goesL_ (some 55) rfl rfl Try.func21 (by kernel_rfl) rfl #[.slice Ao50 t1487.length co50, .slice Ao51 t1472.length co51] rfl zay3 ?_; (with_reducible refine (laws_eqIntS.calls k _ _ t1487 _ _ t1472 true _ ?side1 ?side2 ?side3 ?side4 A48.out).mono ?_); (case side1 => exact zay46); (case side2 => exact (Kd.R_reads' HO1489.out).2.1); (case side3 => exact zay47); (case side4 => exact (Kd.R_reads' HO1474.out).2.1); rintro e w' ⟨rfl, ⟨nd, rfl⟩⟩; refine ⟨_, rfl, ?_⟩))
   go_meet
   case rel => exact ⟨_, ((t1490 != t1475)), zay35, H', ⟨by first | omega | exact Nat.le_refl _⟩, ⟨zay43⟩, ⟨zay41⟩, ⟨zay40⟩, ⟨zay42⟩, ⟨zay2⟩, ⟨zay4⟩, ⟨zay7⟩, ⟨zay1⟩⟩
  replace c49 := Bool.eq_false_iff.mpr c49
  subst c49
  have H1 : (laws_FnExactSpinTour.j0 k l2 a3 t1472 t1475 t1482 t1487 t1490 true a0_0 a0_1 l0_2 a1_0 a1_1 t1476 t1477 t1478) = some r := by rw [if_neg (show ¬ (false = true) by decide)] at H; exact H
  clear H
  have H := H1
  clear H1
  have H' := Aside0.mk H
  clear H
  obtain ⟨Ao52, co52, eo52⟩ := Kd.R_slice HO1489.out
  subst eo52
  obtain ⟨Ao53, co53, eo53⟩ := Kd.R_slice HO1474.out
  subst eo53
  go_wp2_with (first | ((with_reducible refine gate_callee (f := 21) rfl ?_); refine goesL_ (some 55) rfl rfl Try.func21 (by kernel_rfl) rfl #[.slice Ao52 t1487.length co52, .slice Ao53 t1472.length co53] rfl zay3 ?_; (with_reducible refine (laws_eqIntS.calls k _ _ t1487 _ _ t1472 false _ ?side1 ?side2 ?side3 ?side4 A48.out).mono ?_); (case side1 => exact zay46); (case side2 => exact (Kd.R_reads' HO1489.out).2.1); (case side3 => exact zay47); (case side4 => exact (Kd.R_reads' HO1474.out).2.1); rintro e w' ⟨rfl, ⟨nd, rfl⟩⟩; refine ⟨_, rfl, ?_⟩))
  go_meet
  case rel => exact ⟨_, (true), zay35, H', ⟨by first | omega | exact Nat.le_refl _⟩, ⟨zay43⟩, ⟨zay41⟩, ⟨zay40⟩, ⟨zay42⟩, ⟨zay2⟩, ⟨zay4⟩, ⟨zay7⟩, ⟨zay1⟩⟩
 case rest =>
  clear HC23
  try clear c1; try clear c2; try clear p2; try clear c3; try clear c4; try clear c5; try clear c5b0; try clear c5b1; try clear c9; try clear c9b0; try clear c12; try clear c14; try clear c15; try clear c17; try clear c18; try clear c19; try clear c21; try clear c26; try clear c39; try clear c40; try clear c46; try clear c47; try clear c49; try clear hcz13_0; try clear hcz13_1; try clear hcz13_2; try clear hcz27_0; try clear hcz27_1; try clear hcz27_2; try clear hcz36_0; try clear hcz36_1; try clear hcz36_2; try clear hcz41_0; try clear hcz41_1; try clear hcz41_2; try clear hfz13_0; try clear hfz13_1
  try clear hfz13_2; try clear hfz27_0; try clear hfz27_1; try clear hfz27_2; try clear hfz36_0; try clear hfz36_1; try clear hfz36_2; try clear hfz41_0; try clear hfz41_1; try clear hfz41_2
  obtain ⟨kq, x61_22, rfl, HA, HJ22, HO_10, HO_13, HO_14, HO_1482002, BK1459, BK1460, BK1481, HB⟩ := hcut
  cases kq with
  | zero => exact absurd HA.out (by simp [laws_FnExactSpinTour.j0])
  | succ kj22 =>
   have H := HA.out
   clear HA
   simp only [laws_FnExactSpinTour.j0] at H
   by_cases c54 : x61_22 = true
   ·subst c54
    have H1 : (some false) = some r := by rw [if_pos rfl] at H; exact H
    clear H
    have H := H1
    clear H1
    obtain rfl := Option.some.inj H
    go_wp2
    go_ret
    exact ⟨zay17, zay1⟩
   replace c54 := Bool.eq_false_iff.mpr c54
   subst c54
   have H1 : ((laws_toBoard.f kj22 a0_0 a0_1 l0_2).bind fun bt1492 => ((laws_eqBoard.f kj22 t1476 t1477 t1478 bt1492.1 bt1492.2.1 bt1492.2.2).bind fun t1497 => (if t1497 = true then ((laws_toIntS.f kj22 l2).bind fun t1498 => ((laws_eqIntS.f kj22 t1482 t1498).bind fun t1501 => (if t1501 = true then ((laws_markBoard.f kj22 t1476 t1477 t1478 1).bind fun bt1502 => ((laws_markIntS.f kj22 t1482 bt1502.1).bind fun bt1504 => (if bt1504.1 < 0 then (laws_FnExactSpinTour.j1 kj22 l2 a3 t1472 t1475 t1487 true a0_0 a0_1 l0_2 a1_0 a1_1) else ((laws_eqIntS.f kj22 t1487 t1472).bind fun t1506 => (if t1506 = true then (laws_FnExactSpinTour.j1 kj22 l2 a3 t1472 t1475 t1487 (t1490 != t1475) a0_0 a0_1 l0_2 a1_0 a1_1) else (laws_FnExactSpinTour.j1 kj22 l2 a3 t1472 t1475 t1487 true a0_0 a0_1 l0_2 a1_0 a1_1)))))) else (some false)))) else (some false)))) = some r := by rw [if_neg (show ¬ (false = true) by decide)] at H; exact H
   clear H
   have H := H1
   clear H1
   replace H := Option.bind_eq_some_iff.mp H
   obtain ⟨⟨t1492, t1493, t1494⟩, A550, H⟩ := H
   replace H : ((laws_eqBoard.f kj22 t1476 t1477 t1478 t1492 t1493 t1494).bind fun t1497 => (if t1497 = true then ((laws_toIntS.f kj22 l2).bind fun t1498 => ((laws_eqIntS.f kj22 t1482 t1498).bind fun t1501 => (if t1501 = true then ((laws_markBoard.f kj22 t1476 t1477 t1478 1).bind fun bt1502 => ((laws_markIntS.f kj22 t1482 bt1502.1).bind fun bt1504 => (if bt1504.1 < 0 then (laws_FnExactSpinTour.j1 kj22 l2 a3 t1472 t1475 t1487 true a0_0 a0_1 l0_2 a1_0 a1_1) else ((laws_eqIntS.f kj22 t1487 t1472).bind fun t1506 => (if t1506 = true then (laws_FnExactSpinTour.j1 kj22 l2 a3 t1472 t1475 t1487 (t1490 != t1475) a0_0 a0_1 l0_2 a1_0 a1_1) else (laws_FnExactSpinTour.j1 kj22 l2 a3 t1472 t1475 t1487 true a0_0 a0_1 l0_2 a1_0 a1_1)))))) else (some false)))) else (some false))) = some r := H
   have A55 := Aside0.mk A550
   clear A550
   replace H := Option.bind_eq_some_iff.mp H
   obtain ⟨t1497, A560, H⟩ := H
   replace H : (if t1497 = true then ((laws_toIntS.f kj22 l2).bind fun t1498 => ((laws_eqIntS.f kj22 t1482 t1498).bind fun t1501 => (if t1501 = true then ((laws_markBoard.f kj22 t1476 t1477 t1478 1).bind fun bt1502 => ((laws_markIntS.f kj22 t1482 bt1502.1).bind fun bt1504 => (if bt1504.1 < 0 then (laws_FnExactSpinTour.j1 kj22 l2 a3 t1472 t1475 t1487 true a0_0 a0_1 l0_2 a1_0 a1_1) else ((laws_eqIntS.f kj22 t1487 t1472).bind fun t1506 => (if t1506 = true then (laws_FnExactSpinTour.j1 kj22 l2 a3 t1472 t1475 t1487 (t1490 != t1475) a0_0 a0_1 l0_2 a1_0 a1_1) else (laws_FnExactSpinTour.j1 kj22 l2 a3 t1472 t1475 t1487 true a0_0 a0_1 l0_2 a1_0 a1_1)))))) else (some false)))) else (some false)) = some r := H
   have A56 := Aside0.mk A560
   clear A560
   by_cases c57 : t1497 = true
   rotate_left
   ·replace c57 := Bool.eq_false_iff.mpr c57
    subst c57
    have H1 : (some false) = some r := by rw [if_neg (show ¬ (false = true) by decide)] at H; exact H
    clear H
    have H := H1
    clear H1
    obtain rfl := Option.some.inj H
    try go_wp2
    have n0_ := Aside0.mk (Kd.R_drew HO_10.out)
    have n1_ := Aside0.mk (Kd.R_drew HO_13.out)
    have n2_ := Aside0.mk (Kd.R_drew HO_14.out)
    have n3_ := Aside0.mk (Kd.R_drew HO_1482002.out)
    have n4_ := Aside0.mk (blk_drew BK1459.out)
    have n5_ := Aside0.mk (blk_drew BK1460.out)
    have n6_ := Aside0.mk (blk_drew BK1481.out)
    have n7_ := Aside0.mk (below_drew1 HB.out)
    clear HO_10
    clear HO_13
    clear HO_14
    clear HO_1482002
    clear BK1459
    clear BK1460
    clear BK1481
    clear HB
    have HO_10 := n0_
    have HO_13 := n1_
    have HO_14 := n2_
    have HO_1482002 := n3_
    have BK1459 := n4_
    have BK1460 := n5_
    have BK1481 := n6_
    have HB := n7_
    clear n0_ n1_ n2_ n3_ n4_ n5_ n6_ n7_
    refine start_ (n := 5) (S := fun w' => w'.cell? ⟨gb1481, 0, none⟩ = some (.int .i64 t1476) ∧ w'.cell? ⟨gb1481, 1, none⟩ = some (.int .i64 t1477) ∧ w'.cell? ⟨gb1481, 2, none⟩ = some (.slice Ao42 t1478.length co42) ∧ w'.cell? ⟨gb1459, 0, none⟩ = some (.int .i64 a0_0) ∧ w'.cell? ⟨gb1459, 1, none⟩ = some (.int .i64 a0_1) ∧ w'.cell? ⟨gb1459, 2, none⟩ = some (.slice A0_2 l0_2.length c0_2)) (ds := []) #[false, false, false, false, false] (by kernel_rfl) rfl rfl ⟨(blk_cell BK1481.out 0).trans rfl, (blk_cell BK1481.out 1).trans rfl, (blk_cell BK1481.out 2).trans rfl, (blk_cell BK1459.out 0).trans rfl, (blk_cell BK1459.out 1).trans rfl, (blk_cell BK1459.out 2).trans rfl⟩ (fun hHeld => ?_)
    generalize wc.drew = w121 at HO_10 HO_13 HO_14 HO_1482002 BK1459 BK1460 BK1481 HB hHeld ⊢
    refine take_ (i := 0) (N := some 62) (v := ?_) (a' := ?_) #[true, false, false, false, false] rfl rfl (by kernel_rfl) (fun _ _ _ h => h) (Or.inl ⟨by rfl, ?_⟩) hHeld ?_ ?_
    rotate_left
    ·rintro w' ⟨s0, s1, s2, s3, s4, s5⟩
     go_simp
     with_reducible rfl
    rotate_left
    ·simp only [Act.put, List.setIfInBounds_toArray, List.set_cons_zero, List.set_cons_succ, i64_w, i32_w]
     rfl
    refine take_ (i := 1) (N := some 63) (v := ?_) (a' := ?_) #[true, true, false, false, false] rfl rfl (by kernel_rfl) (fun _ _ _ h => h) (Or.inl ⟨by rfl, ?_⟩) hHeld ?_ ?_
    rotate_left
    ·rintro w' ⟨s0, s1, s2, s3, s4, s5⟩
     go_simp
     with_reducible rfl
    rotate_left
    ·simp only [Act.put, List.setIfInBounds_toArray, List.set_cons_zero, List.set_cons_succ, i64_w, i32_w]
     rfl
    refine one_ (i := 2) (N := some 64) #[true, true, true, false, false] rfl rfl (by kernel_rfl) (by decide) (fun K hK => ?_)
    refine goes_ Try.func17 (by kernel_rfl) rfl #[.agg #[.int .i64 a0_0, .int .i64 a0_1, .slice A0_2 l0_2.length c0_2]] (by rfl) rfl rfl zay3 ?_
    with_reducible refine (laws_toBoard.calls kj22 a0_0 a0_1 _ _ l0_2 t1492 t1493 t1494 _ ?side1 ?side2 A55.out).mono ?_
    (case side1 => exact zay13)
    (case side2 => exact HC0_2.out)
    rintro e w122 ⟨v1495, rfl, ho0, hb⟩
    refine ⟨_, rfl, ?_⟩
    have n0_ := Aside0.mk (Kd.R_elder' zay10 (Kd.R_base ho0) hb)
    have n1_ := Aside0.mk (Kd.R_elder' zay12 (Kd.R_base ho0) hb)
    have n2_ := Aside0.mk (Kd.R_elder' zay9 (Kd.R_base ho0) hb)
    have n3_ := Aside0.mk (Kd.R_elder' zay8 (Kd.R_base ho0) hb)
    have n4_ := Aside0.mk (Kd.R_lower (Kd.R_new' (Kd.R_new' (Kd.R_new' (Kd.R_new' ho0 (Kd.R_lt zay10)) (Kd.R_lt zay12)) (Kd.R_lt zay9)) (Kd.R_lt zay8)) (below_size zay1))
    have n5_ := Aside0.mk (blk_below (g := gb1459) (o := .cells #[.int .i64 a0_0, .int .i64 a0_1, .slice A0_2 l0_2.length c0_2] 24 (0, 0)) zay2 hb)
    have n6_ := Aside0.mk (blk_below (g := gb1460) (o := .cells #[.int .i64 a1_0, .int .i64 a1_1] 26 (0, 0)) zay4 hb)
    have n7_ := Aside0.mk (blk_below (g := gb1481) (o := .cells #[.int .i64 t1476, .int .i64 t1477, .slice Ao42 t1478.length co42] 30 (0, 0)) zay7 hb)
    have n8_ := Aside0.mk (below_step zay1 hb)
    clear HO_10
    clear HO_13
    clear HO_14
    clear HO_1482002
    clear BK1459
    clear BK1460
    clear BK1481
    clear HB
    have HO_10 := n0_
    have HO_13 := n1_
    have HO_14 := n2_
    have HO_1482002 := n3_
    have HO1496 := n4_
    have BK1459 := n5_
    have BK1460 := n6_
    have BK1481 := n7_
    have HB := n8_
    clear n0_ n1_ n2_ n3_ n4_ n5_ n6_ n7_ n8_
    (try clear hb)
    (try clear hb2)
    (try clear hk)
    (try clear hi)
    (try clear ho0)
    (try clear hna_)
    (try clear hnb_)
    obtain ⟨Ao123, co123, eo123⟩ := Kd.R_slice HO1496.out
    (first | subst eo123 | (injection eo123 with f1_ f2_ f3_; have f4_ := f1_.symm; have f5_ := f3_.symm; clear f1_ f2_ f3_; subst f4_; subst f5_))
    refine hK.out _ _ ⟨(blk_cell BK1481.out 0).trans rfl, (blk_cell BK1481.out 1).trans rfl, (blk_cell BK1481.out 2).trans rfl, (blk_cell BK1459.out 0).trans rfl, (blk_cell BK1459.out 1).trans rfl, (blk_cell BK1459.out 2).trans rfl⟩ (fun hHeld => ?_)
    clear hK K
    refine norm_ (a' := ?_) ?_ ?_
    rotate_left
    ·show Act.put _ (some 64) _ = _
     simp only [Act.put, List.setIfInBounds_toArray, List.set_cons_zero, List.set_cons_succ, i64_w, i32_w]
     rfl
    refine one_ (i := 3) (N := some 65) #[true, true, true, true, false] rfl rfl (by kernel_rfl) (by decide) (fun K hK => ?_)
    refine goes_ Try.func22 (by kernel_rfl) rfl #[.agg #[.int .i64 t1476, .int .i64 t1477, .slice Ao42 t1478.length co42], .agg #[.int .i64 t1492, .int .i64 t1493, .slice Ao123 t1494.length co123]] (by rfl) rfl rfl zay3 ?_
    with_reducible refine (laws_eqBoard.calls kj22 t1476 t1477 _ _ t1478 t1492 t1493 _ _ t1494 false _ ?side1 ?side2 ?side3 ?side4 A56.out).mono ?_
    (case side1 => exact zay29)
    (case side2 => exact (Kd.R_reads' HO_1482002.out).2.1)
    (case side3 => exact zay30)
    (case side4 => exact (Kd.R_reads' HO1496.out).2.1)
    rintro e w124 ⟨rfl, hb⟩
    refine ⟨_, rfl, ?_⟩
    have n0_ := Aside0.mk (Kd.R_below zay10 hb)
    have n1_ := Aside0.mk (Kd.R_below zay12 hb)
    have n2_ := Aside0.mk (Kd.R_below zay9 hb)
    have n3_ := Aside0.mk (Kd.R_below zay8 hb)
    have n4_ := Aside0.mk (Kd.R_below zay19 hb)
    have n5_ := Aside0.mk (blk_below (g := gb1459) (o := .cells #[.int .i64 a0_0, .int .i64 a0_1, .slice A0_2 l0_2.length c0_2] 24 (0, 0)) zay2 hb)
    have n6_ := Aside0.mk (blk_below (g := gb1460) (o := .cells #[.int .i64 a1_0, .int .i64 a1_1] 26 (0, 0)) zay4 hb)
    have n7_ := Aside0.mk (blk_below (g := gb1481) (o := .cells #[.int .i64 t1476, .int .i64 t1477, .slice Ao42 t1478.length co42] 30 (0, 0)) zay7 hb)
    have n8_ := Aside0.mk (below_step zay1 hb)
    clear HO_10
    clear HO_13
    clear HO_14
    clear HO_1482002
    clear HO1496
    clear BK1459
    clear BK1460
    clear BK1481
    clear HB
    have HO_10 := n0_
    have HO_13 := n1_
    have HO_14 := n2_
    have HO_1482002 := n3_
    have HO1496 := n4_
    have BK1459 := n5_
    have BK1460 := n6_
    have BK1481 := n7_
    have HB := n8_
    clear n0_ n1_ n2_ n3_ n4_ n5_ n6_ n7_ n8_
    (try clear hb)
    (try clear hb2)
    (try clear hk)
    (try clear hi)
    (try clear hna_)
    (try clear hnb_)
    refine hK.out _ _ ⟨(blk_cell BK1481.out 0).trans rfl, (blk_cell BK1481.out 1).trans rfl, (blk_cell BK1481.out 2).trans rfl, (blk_cell BK1459.out 0).trans rfl, (blk_cell BK1459.out 1).trans rfl, (blk_cell BK1459.out 2).trans rfl⟩ (fun hHeld => ?_)
    clear hK K
    refine norm_ (a' := ?_) ?_ ?_
    rotate_left
    ·show Act.put _ (some 65) _ = _
     simp only [Act.put, List.setIfInBounds_toArray, List.set_cons_zero, List.set_cons_succ, i64_w, i32_w]
     rfl
    refine pure_ (i := 4) (N := some 66) (v := ?_) (a' := ?_) #[true, true, true, true, true] rfl rfl (by kernel_rfl) (fun _ _ _ h => h) (Or.inl ⟨by rfl, ?_⟩) ?_ ?_
    rotate_left
    ·intro w'
     go_simp
     with_reducible rfl
    rotate_left
    ·simp only [Act.put, List.setIfInBounds_toArray, List.set_cons_zero, List.set_cons_succ, i64_w, i32_w]
     rfl
    refine done_ (by kernel_rfl) ?_
    try go_wp2
    go_ret
    exact ⟨zay17, zay1⟩
   subst c57
   have H1 : ((laws_toIntS.f kj22 l2).bind fun t1498 => ((laws_eqIntS.f kj22 t1482 t1498).bind fun t1501 => (if t1501 = true then ((laws_markBoard.f kj22 t1476 t1477 t1478 1).bind fun bt1502 => ((laws_markIntS.f kj22 t1482 bt1502.1).bind fun bt1504 => (if bt1504.1 < 0 then (laws_FnExactSpinTour.j1 kj22 l2 a3 t1472 t1475 t1487 true a0_0 a0_1 l0_2 a1_0 a1_1) else ((laws_eqIntS.f kj22 t1487 t1472).bind fun t1506 => (if t1506 = true then (laws_FnExactSpinTour.j1 kj22 l2 a3 t1472 t1475 t1487 (t1490 != t1475) a0_0 a0_1 l0_2 a1_0 a1_1) else (laws_FnExactSpinTour.j1 kj22 l2 a3 t1472 t1475 t1487 true a0_0 a0_1 l0_2 a1_0 a1_1)))))) else (some false)))) = some r := by rw [if_pos rfl] at H; exact H
   clear H
   have H := H1
   clear H1
   replace H := Option.bind_eq_some_iff.mp H
   obtain ⟨t1498, A580, H⟩ := H
   replace H : ((laws_eqIntS.f kj22 t1482 t1498).bind fun t1501 => (if t1501 = true then ((laws_markBoard.f kj22 t1476 t1477 t1478 1).bind fun bt1502 => ((laws_markIntS.f kj22 t1482 bt1502.1).bind fun bt1504 => (if bt1504.1 < 0 then (laws_FnExactSpinTour.j1 kj22 l2 a3 t1472 t1475 t1487 true a0_0 a0_1 l0_2 a1_0 a1_1) else ((laws_eqIntS.f kj22 t1487 t1472).bind fun t1506 => (if t1506 = true then (laws_FnExactSpinTour.j1 kj22 l2 a3 t1472 t1475 t1487 (t1490 != t1475) a0_0 a0_1 l0_2 a1_0 a1_1) else (laws_FnExactSpinTour.j1 kj22 l2 a3 t1472 t1475 t1487 true a0_0 a0_1 l0_2 a1_0 a1_1)))))) else (some false))) = some r := H
   have A58 := Aside0.mk A580
   clear A580
   replace H := Option.bind_eq_some_iff.mp H
   obtain ⟨t1501, A590, H⟩ := H
   replace H : (if t1501 = true then ((laws_markBoard.f kj22 t1476 t1477 t1478 1).bind fun bt1502 => ((laws_markIntS.f kj22 t1482 bt1502.1).bind fun bt1504 => (if bt1504.1 < 0 then (laws_FnExactSpinTour.j1 kj22 l2 a3 t1472 t1475 t1487 true a0_0 a0_1 l0_2 a1_0 a1_1) else ((laws_eqIntS.f kj22 t1487 t1472).bind fun t1506 => (if t1506 = true then (laws_FnExactSpinTour.j1 kj22 l2 a3 t1472 t1475 t1487 (t1490 != t1475) a0_0 a0_1 l0_2 a1_0 a1_1) else (laws_FnExactSpinTour.j1 kj22 l2 a3 t1472 t1475 t1487 true a0_0 a0_1 l0_2 a1_0 a1_1)))))) else (some false)) = some r := H
   have A59 := Aside0.mk A590
   clear A590
   by_cases c60 : t1501 = true
   rotate_left
   ·replace c60 := Bool.eq_false_iff.mpr c60
    subst c60
    have H1 : (some false) = some r := by rw [if_neg (show ¬ (false = true) by decide)] at H; exact H
    clear H
    have H := H1
    clear H1
    obtain rfl := Option.some.inj H
    try go_wp2
    have n0_ := Aside0.mk (Kd.R_drew HO_10.out)
    have n1_ := Aside0.mk (Kd.R_drew HO_13.out)
    have n2_ := Aside0.mk (Kd.R_drew HO_14.out)
    have n3_ := Aside0.mk (Kd.R_drew HO_1482002.out)
    have n4_ := Aside0.mk (blk_drew BK1459.out)
    have n5_ := Aside0.mk (blk_drew BK1460.out)
    have n6_ := Aside0.mk (blk_drew BK1481.out)
    have n7_ := Aside0.mk (below_drew1 HB.out)
    clear HO_10
    clear HO_13
    clear HO_14
    clear HO_1482002
    clear BK1459
    clear BK1460
    clear BK1481
    clear HB
    have HO_10 := n0_
    have HO_13 := n1_
    have HO_14 := n2_
    have HO_1482002 := n3_
    have BK1459 := n4_
    have BK1460 := n5_
    have BK1481 := n6_
    have HB := n7_
    clear n0_ n1_ n2_ n3_ n4_ n5_ n6_ n7_
    refine start_ (n := 5) (S := fun w' => w'.cell? ⟨gb1481, 0, none⟩ = some (.int .i64 t1476) ∧ w'.cell? ⟨gb1481, 1, none⟩ = some (.int .i64 t1477) ∧ w'.cell? ⟨gb1481, 2, none⟩ = some (.slice Ao42 t1478.length co42) ∧ w'.cell? ⟨gb1459, 0, none⟩ = some (.int .i64 a0_0) ∧ w'.cell? ⟨gb1459, 1, none⟩ = some (.int .i64 a0_1) ∧ w'.cell? ⟨gb1459, 2, none⟩ = some (.slice A0_2 l0_2.length c0_2)) (ds := []) #[false, false, false, false, false] (by kernel_rfl) rfl rfl ⟨(blk_cell BK1481.out 0).trans rfl, (blk_cell BK1481.out 1).trans rfl, (blk_cell BK1481.out 2).trans rfl, (blk_cell BK1459.out 0).trans rfl, (blk_cell BK1459.out 1).trans rfl, (blk_cell BK1459.out 2).trans rfl⟩ (fun hHeld => ?_)
    generalize wc.drew = w115 at HO_10 HO_13 HO_14 HO_1482002 BK1459 BK1460 BK1481 HB hHeld ⊢
    refine take_ (i := 0) (N := some 62) (v := ?_) (a' := ?_) #[true, false, false, false, false] rfl rfl (by kernel_rfl) (fun _ _ _ h => h) (Or.inl ⟨by rfl, ?_⟩) hHeld ?_ ?_
    rotate_left
    ·rintro w' ⟨s0, s1, s2, s3, s4, s5⟩
     go_simp
     with_reducible rfl
    rotate_left
    ·simp only [Act.put, List.setIfInBounds_toArray, List.set_cons_zero, List.set_cons_succ, i64_w, i32_w]
     rfl
    refine take_ (i := 1) (N := some 63) (v := ?_) (a' := ?_) #[true, true, false, false, false] rfl rfl (by kernel_rfl) (fun _ _ _ h => h) (Or.inl ⟨by rfl, ?_⟩) hHeld ?_ ?_
    rotate_left
    ·rintro w' ⟨s0, s1, s2, s3, s4, s5⟩
     go_simp
     with_reducible rfl
    rotate_left
    ·simp only [Act.put, List.setIfInBounds_toArray, List.set_cons_zero, List.set_cons_succ, i64_w, i32_w]
     rfl
    refine one_ (i := 2) (N := some 64) #[true, true, true, false, false] rfl rfl (by kernel_rfl) (by decide) (fun K hK => ?_)
    refine goes_ Try.func17 (by kernel_rfl) rfl #[.agg #[.int .i64 a0_0, .int .i64 a0_1, .slice A0_2 l0_2.length c0_2]] (by rfl) rfl rfl zay3 ?_
    with_reducible refine (laws_toBoard.calls kj22 a0_0 a0_1 _ _ l0_2 t1492 t1493 t1494 _ ?side1 ?side2 A55.out).mono ?_
    (case side1 => exact zay13)
    (case side2 => exact HC0_2.out)
    rintro e w116 ⟨v1495, rfl, ho0, hb⟩
    refine ⟨_, rfl, ?_⟩
    have n0_ := Aside0.mk (Kd.R_elder' zay10 (Kd.R_base ho0) hb)
    have n1_ := Aside0.mk (Kd.R_elder' zay12 (Kd.R_base ho0) hb)
    have n2_ := Aside0.mk (Kd.R_elder' zay9 (Kd.R_base ho0) hb)
    have n3_ := Aside0.mk (Kd.R_elder' zay8 (Kd.R_base ho0) hb)
    have n4_ := Aside0.mk (Kd.R_lower (Kd.R_new' (Kd.R_new' (Kd.R_new' (Kd.R_new' ho0 (Kd.R_lt zay10)) (Kd.R_lt zay12)) (Kd.R_lt zay9)) (Kd.R_lt zay8)) (below_size zay1))
    have n5_ := Aside0.mk (blk_below (g := gb1459) (o := .cells #[.int .i64 a0_0, .int .i64 a0_1, .slice A0_2 l0_2.length c0_2] 24 (0, 0)) zay2 hb)
    have n6_ := Aside0.mk (blk_below (g := gb1460) (o := .cells #[.int .i64 a1_0, .int .i64 a1_1] 26 (0, 0)) zay4 hb)
    have n7_ := Aside0.mk (blk_below (g := gb1481) (o := .cells #[.int .i64 t1476, .int .i64 t1477, .slice Ao42 t1478.length co42] 30 (0, 0)) zay7 hb)
    have n8_ := Aside0.mk (below_step zay1 hb)
    clear HO_10
    clear HO_13
    clear HO_14
    clear HO_1482002
    clear BK1459
    clear BK1460
    clear BK1481
    clear HB
    have HO_10 := n0_
    have HO_13 := n1_
    have HO_14 := n2_
    have HO_1482002 := n3_
    have HO1496 := n4_
    have BK1459 := n5_
    have BK1460 := n6_
    have BK1481 := n7_
    have HB := n8_
    clear n0_ n1_ n2_ n3_ n4_ n5_ n6_ n7_ n8_
    (try clear hb)
    (try clear hb2)
    (try clear hk)
    (try clear hi)
    (try clear ho0)
    (try clear hna_)
    (try clear hnb_)
    obtain ⟨Ao117, co117, eo117⟩ := Kd.R_slice HO1496.out
    (first | subst eo117 | (injection eo117 with f1_ f2_ f3_; have f4_ := f1_.symm; have f5_ := f3_.symm; clear f1_ f2_ f3_; subst f4_; subst f5_))
    refine hK.out _ _ ⟨(blk_cell BK1481.out 0).trans rfl, (blk_cell BK1481.out 1).trans rfl, (blk_cell BK1481.out 2).trans rfl, (blk_cell BK1459.out 0).trans rfl, (blk_cell BK1459.out 1).trans rfl, (blk_cell BK1459.out 2).trans rfl⟩ (fun hHeld => ?_)
    clear hK K
    refine norm_ (a' := ?_) ?_ ?_
    rotate_left
    ·show Act.put _ (some 64) _ = _
     simp only [Act.put, List.setIfInBounds_toArray, List.set_cons_zero, List.set_cons_succ, i64_w, i32_w]
     rfl
    refine one_ (i := 3) (N := some 65) #[true, true, true, true, false] rfl rfl (by kernel_rfl) (by decide) (fun K hK => ?_)
    refine goes_ Try.func22 (by kernel_rfl) rfl #[.agg #[.int .i64 t1476, .int .i64 t1477, .slice Ao42 t1478.length co42], .agg #[.int .i64 t1492, .int .i64 t1493, .slice Ao117 t1494.length co117]] (by rfl) rfl rfl zay3 ?_
    with_reducible refine (laws_eqBoard.calls kj22 t1476 t1477 _ _ t1478 t1492 t1493 _ _ t1494 true _ ?side1 ?side2 ?side3 ?side4 A56.out).mono ?_
    (case side1 => exact zay29)
    (case side2 => exact (Kd.R_reads' HO_1482002.out).2.1)
    (case side3 => exact zay30)
    (case side4 => exact (Kd.R_reads' HO1496.out).2.1)
    rintro e w118 ⟨rfl, hb⟩
    refine ⟨_, rfl, ?_⟩
    have n0_ := Aside0.mk (Kd.R_below zay10 hb)
    have n1_ := Aside0.mk (Kd.R_below zay12 hb)
    have n2_ := Aside0.mk (Kd.R_below zay9 hb)
    have n3_ := Aside0.mk (Kd.R_below zay8 hb)
    have n4_ := Aside0.mk (Kd.R_below zay19 hb)
    have n5_ := Aside0.mk (blk_below (g := gb1459) (o := .cells #[.int .i64 a0_0, .int .i64 a0_1, .slice A0_2 l0_2.length c0_2] 24 (0, 0)) zay2 hb)
    have n6_ := Aside0.mk (blk_below (g := gb1460) (o := .cells #[.int .i64 a1_0, .int .i64 a1_1] 26 (0, 0)) zay4 hb)
    have n7_ := Aside0.mk (blk_below (g := gb1481) (o := .cells #[.int .i64 t1476, .int .i64 t1477, .slice Ao42 t1478.length co42] 30 (0, 0)) zay7 hb)
    have n8_ := Aside0.mk (below_step zay1 hb)
    clear HO_10
    clear HO_13
    clear HO_14
    clear HO_1482002
    clear HO1496
    clear BK1459
    clear BK1460
    clear BK1481
    clear HB
    have HO_10 := n0_
    have HO_13 := n1_
    have HO_14 := n2_
    have HO_1482002 := n3_
    have HO1496 := n4_
    have BK1459 := n5_
    have BK1460 := n6_
    have BK1481 := n7_
    have HB := n8_
    clear n0_ n1_ n2_ n3_ n4_ n5_ n6_ n7_ n8_
    (try clear hb)
    (try clear hb2)
    (try clear hk)
    (try clear hi)
    (try clear hna_)
    (try clear hnb_)
    refine hK.out _ _ ⟨(blk_cell BK1481.out 0).trans rfl, (blk_cell BK1481.out 1).trans rfl, (blk_cell BK1481.out 2).trans rfl, (blk_cell BK1459.out 0).trans rfl, (blk_cell BK1459.out 1).trans rfl, (blk_cell BK1459.out 2).trans rfl⟩ (fun hHeld => ?_)
    clear hK K
    refine norm_ (a' := ?_) ?_ ?_
    rotate_left
    ·show Act.put _ (some 65) _ = _
     simp only [Act.put, List.setIfInBounds_toArray, List.set_cons_zero, List.set_cons_succ, i64_w, i32_w]
     rfl
    refine pure_ (i := 4) (N := some 66) (v := ?_) (a' := ?_) #[true, true, true, true, true] rfl rfl (by kernel_rfl) (fun _ _ _ h => h) (Or.inl ⟨by rfl, ?_⟩) ?_ ?_
    rotate_left
    ·intro w'
     go_simp
     with_reducible rfl
    rotate_left
    ·simp only [Act.put, List.setIfInBounds_toArray, List.set_cons_zero, List.set_cons_succ, i64_w, i32_w]
     rfl
    refine done_ (by kernel_rfl) ?_
    try go_wp2_with (first | ((with_reducible refine gate_callee (f := 19) rfl ?_); refine goesL_ (some 69) rfl rfl Try.func19 (by kernel_rfl) rfl #[.slice A2 l2.length c2] rfl zay3 ?_; (with_reducible refine (laws_toIntS.calls kj22 _ _ l2 t1498 _ ?side1 ?side2 A58.out).mono ?_); (case side1 => exact zay22); (case side2 => exact HC2.out); rintro e w119 ⟨v1499, rfl, ho0, hb⟩; refine ⟨_, rfl, ?_⟩; have n0_ := Aside0.mk (Kd.R_elder' zay10 (Kd.R_base ho0) hb); have n1_ := Aside0.mk (Kd.R_elder' zay12 (Kd.R_base ho0) hb); have n2_ := Aside0.mk (Kd.R_elder' zay9 (Kd.R_base ho0) hb); have n3_ := Aside0.mk (Kd.R_elder' zay8 (Kd.R_base ho0) hb); have n4_ := Aside0.mk (Kd.R_elder' zay19 (Kd.R_base ho0) hb); have n5_ := Aside0.mk (Kd.R_lower (Kd.R_new' (Kd.R_new' (Kd.R_new' (Kd.R_new' (Kd.R_new' ho0 (Kd.R_lt zay10)) (Kd.R_lt zay12)) (Kd.R_lt zay9)) (Kd.R_lt zay8)) (Kd.R_lt zay19)) (below_size zay1)); have n6_ := Aside0.mk (blk_below (g := gb1459) (o := .cells #[.int .i64 a0_0, .int .i64 a0_1, .slice A0_2 l0_2.length c0_2] 24 (0, 0)) zay2 hb); have n7_ := Aside0.mk (blk_below (g := gb1460) (o := .cells #[.int .i64 a1_0, .int .i64 a1_1] 26 (0, 0)) zay4 hb); have n8_ := Aside0.mk (blk_below (g := gb1481) (o := .cells #[.int .i64 t1476, .int .i64 t1477, .slice Ao42 t1478.length co42] 30 (0, 0)) zay7 hb); have n9_ := Aside0.mk (below_step zay1 hb); clear HO_10; clear HO_13; clear HO_14; clear HO_1482002; clear HO1496; clear BK1459; clear BK1460; clear BK1481; clear HB; have HO_10 := n0_; have HO_13 := n1_; have HO_14 := n2_; have HO_1482002 := n3_; have HO1496 := n4_; have HO1500 := n5_; have BK1459 := n6_; have BK1460 := n7_; have BK1481 := n8_; have HB := n9_; clear n0_ n1_ n2_ n3_ n4_ n5_ n6_ n7_ n8_ n9_; (try clear hb); (try clear hb2); (try clear hk); (try clear hi); (try clear ho0); (try clear hna_); (try clear hnb_); obtain ⟨Ao120, co120, eo120⟩ := Kd.R_slice HO1500.out; subst eo120) | ((with_reducible refine gate_callee (f := 21) rfl ?_); refine goesL_ (some 70) rfl rfl Try.func21 (by kernel_rfl) rfl #[.slice Ao46 t1482.length co46, .slice Ao120 t1498.length co120] rfl zay3 ?_; (with_reducible refine (laws_eqIntS.calls kj22 _ _ t1482 _ _ t1498 false _ ?side1 ?side2 ?side3 ?side4 A59.out).mono ?_); (case side1 => exact zay48); (case side2 => exact (Kd.R_reads' HO_13.out).2.1); (case side3 => exact zay45); (case side4 => exact (Kd.R_reads' HO1500.out).2.1); rintro e w' ⟨rfl, ⟨nd, rfl⟩⟩; refine ⟨_, rfl, ?_⟩))
    go_ret
    exact ⟨zay17, zay1⟩
   subst c60
   have H1 : ((laws_markBoard.f kj22 t1476 t1477 t1478 1).bind fun bt1502 => ((laws_markIntS.f kj22 t1482 bt1502.1).bind fun bt1504 => (if bt1504.1 < 0 then (laws_FnExactSpinTour.j1 kj22 l2 a3 t1472 t1475 t1487 true a0_0 a0_1 l0_2 a1_0 a1_1) else ((laws_eqIntS.f kj22 t1487 t1472).bind fun t1506 => (if t1506 = true then (laws_FnExactSpinTour.j1 kj22 l2 a3 t1472 t1475 t1487 (t1490 != t1475) a0_0 a0_1 l0_2 a1_0 a1_1) else (laws_FnExactSpinTour.j1 kj22 l2 a3 t1472 t1475 t1487 true a0_0 a0_1 l0_2 a1_0 a1_1)))))) = some r := by rw [if_pos rfl] at H; exact H
   clear H
   have H := H1
   clear H1
   replace H := Option.bind_eq_some_iff.mp H
   obtain ⟨⟨t1502, t1503⟩, A610, H⟩ := H
   replace H : ((laws_markIntS.f kj22 t1482 t1502).bind fun bt1504 => (if bt1504.1 < 0 then (laws_FnExactSpinTour.j1 kj22 l2 a3 t1472 t1475 t1487 true a0_0 a0_1 l0_2 a1_0 a1_1) else ((laws_eqIntS.f kj22 t1487 t1472).bind fun t1506 => (if t1506 = true then (laws_FnExactSpinTour.j1 kj22 l2 a3 t1472 t1475 t1487 (t1490 != t1475) a0_0 a0_1 l0_2 a1_0 a1_1) else (laws_FnExactSpinTour.j1 kj22 l2 a3 t1472 t1475 t1487 true a0_0 a0_1 l0_2 a1_0 a1_1))))) = some r := H
   have A61 := Aside0.mk A610
   clear A610
   replace H := Option.bind_eq_some_iff.mp H
   obtain ⟨⟨t1504, t1505⟩, A620, H⟩ := H
   replace H : (if t1504 < 0 then (laws_FnExactSpinTour.j1 kj22 l2 a3 t1472 t1475 t1487 true a0_0 a0_1 l0_2 a1_0 a1_1) else ((laws_eqIntS.f kj22 t1487 t1472).bind fun t1506 => (if t1506 = true then (laws_FnExactSpinTour.j1 kj22 l2 a3 t1472 t1475 t1487 (t1490 != t1475) a0_0 a0_1 l0_2 a1_0 a1_1) else (laws_FnExactSpinTour.j1 kj22 l2 a3 t1472 t1475 t1487 true a0_0 a0_1 l0_2 a1_0 a1_1)))) = some r := H
   have A62 := Aside0.mk A620
   clear A620
   have HC63 := Aside0.mk H
   clear H
   try go_wp2
   have n0_ := Aside0.mk (Kd.R_drew HO_10.out)
   have n1_ := Aside0.mk (Kd.R_drew HO_13.out)
   have n2_ := Aside0.mk (Kd.R_drew HO_14.out)
   have n3_ := Aside0.mk (Kd.R_drew HO_1482002.out)
   have n4_ := Aside0.mk (blk_drew BK1459.out)
   have n5_ := Aside0.mk (blk_drew BK1460.out)
   have n6_ := Aside0.mk (blk_drew BK1481.out)
   have n7_ := Aside0.mk (below_drew1 HB.out)
   clear HO_10
   clear HO_13
   clear HO_14
   clear HO_1482002
   clear BK1459
   clear BK1460
   clear BK1481
   clear HB
   have HO_10 := n0_
   have HO_13 := n1_
   have HO_14 := n2_
   have HO_1482002 := n3_
   have BK1459 := n4_
   have BK1460 := n5_
   have BK1481 := n6_
   have HB := n7_
   clear n0_ n1_ n2_ n3_ n4_ n5_ n6_ n7_
   refine start_ (n := 5) (S := fun w' => w'.cell? ⟨gb1481, 0, none⟩ = some (.int .i64 t1476) ∧ w'.cell? ⟨gb1481, 1, none⟩ = some (.int .i64 t1477) ∧ w'.cell? ⟨gb1481, 2, none⟩ = some (.slice Ao42 t1478.length co42) ∧ w'.cell? ⟨gb1459, 0, none⟩ = some (.int .i64 a0_0) ∧ w'.cell? ⟨gb1459, 1, none⟩ = some (.int .i64 a0_1) ∧ w'.cell? ⟨gb1459, 2, none⟩ = some (.slice A0_2 l0_2.length c0_2)) (ds := []) #[false, false, false, false, false] (by kernel_rfl) rfl rfl ⟨(blk_cell BK1481.out 0).trans rfl, (blk_cell BK1481.out 1).trans rfl, (blk_cell BK1481.out 2).trans rfl, (blk_cell BK1459.out 0).trans rfl, (blk_cell BK1459.out 1).trans rfl, (blk_cell BK1459.out 2).trans rfl⟩ (fun hHeld => ?_)
   generalize wc.drew = w64 at HO_10 HO_13 HO_14 HO_1482002 BK1459 BK1460 BK1481 HB hHeld ⊢
   refine take_ (i := 0) (N := some 62) (v := ?_) (a' := ?_) #[true, false, false, false, false] rfl rfl (by kernel_rfl) (fun _ _ _ h => h) (Or.inl ⟨by rfl, ?_⟩) hHeld ?_ ?_
   rotate_left
   ·rintro w' ⟨s0, s1, s2, s3, s4, s5⟩
    go_simp
    with_reducible rfl
   rotate_left
   ·simp only [Act.put, List.setIfInBounds_toArray, List.set_cons_zero, List.set_cons_succ, i64_w, i32_w]
    rfl
   refine take_ (i := 1) (N := some 63) (v := ?_) (a' := ?_) #[true, true, false, false, false] rfl rfl (by kernel_rfl) (fun _ _ _ h => h) (Or.inl ⟨by rfl, ?_⟩) hHeld ?_ ?_
   rotate_left
   ·rintro w' ⟨s0, s1, s2, s3, s4, s5⟩
    go_simp
    with_reducible rfl
   rotate_left
   ·simp only [Act.put, List.setIfInBounds_toArray, List.set_cons_zero, List.set_cons_succ, i64_w, i32_w]
    rfl
   refine one_ (i := 2) (N := some 64) #[true, true, true, false, false] rfl rfl (by kernel_rfl) (by decide) (fun K hK => ?_)
   refine goes_ Try.func17 (by kernel_rfl) rfl #[.agg #[.int .i64 a0_0, .int .i64 a0_1, .slice A0_2 l0_2.length c0_2]] (by rfl) rfl rfl zay3 ?_
   with_reducible refine (laws_toBoard.calls kj22 a0_0 a0_1 _ _ l0_2 t1492 t1493 t1494 _ ?side1 ?side2 A55.out).mono ?_
   (case side1 => exact zay13)
   (case side2 => exact HC0_2.out)
   rintro e w65 ⟨v1495, rfl, ho0, hb⟩
   refine ⟨_, rfl, ?_⟩
   have n0_ := Aside0.mk (Kd.R_elder' zay10 (Kd.R_base ho0) hb)
   have n1_ := Aside0.mk (Kd.R_elder' zay12 (Kd.R_base ho0) hb)
   have n2_ := Aside0.mk (Kd.R_elder' zay9 (Kd.R_base ho0) hb)
   have n3_ := Aside0.mk (Kd.R_elder' zay8 (Kd.R_base ho0) hb)
   have n4_ := Aside0.mk (Kd.R_lower (Kd.R_new' (Kd.R_new' (Kd.R_new' (Kd.R_new' ho0 (Kd.R_lt zay10)) (Kd.R_lt zay12)) (Kd.R_lt zay9)) (Kd.R_lt zay8)) (below_size zay1))
   have n5_ := Aside0.mk (blk_below (g := gb1459) (o := .cells #[.int .i64 a0_0, .int .i64 a0_1, .slice A0_2 l0_2.length c0_2] 24 (0, 0)) zay2 hb)
   have n6_ := Aside0.mk (blk_below (g := gb1460) (o := .cells #[.int .i64 a1_0, .int .i64 a1_1] 26 (0, 0)) zay4 hb)
   have n7_ := Aside0.mk (blk_below (g := gb1481) (o := .cells #[.int .i64 t1476, .int .i64 t1477, .slice Ao42 t1478.length co42] 30 (0, 0)) zay7 hb)
   have n8_ := Aside0.mk (below_step zay1 hb)
   clear HO_10
   clear HO_13
   clear HO_14
   clear HO_1482002
   clear BK1459
   clear BK1460
   clear BK1481
   clear HB
   have HO_10 := n0_
   have HO_13 := n1_
   have HO_14 := n2_
   have HO_1482002 := n3_
   have HO1496 := n4_
   have BK1459 := n5_
   have BK1460 := n6_
   have BK1481 := n7_
   have HB := n8_
   clear n0_ n1_ n2_ n3_ n4_ n5_ n6_ n7_ n8_
   (try clear hb)
   (try clear hb2)
   (try clear hk)
   (try clear hi)
   (try clear ho0)
   (try clear hna_)
   (try clear hnb_)
   obtain ⟨Ao66, co66, eo66⟩ := Kd.R_slice HO1496.out
   (first | subst eo66 | (injection eo66 with f1_ f2_ f3_; have f4_ := f1_.symm; have f5_ := f3_.symm; clear f1_ f2_ f3_; subst f4_; subst f5_))
   refine hK.out _ _ ⟨(blk_cell BK1481.out 0).trans rfl, (blk_cell BK1481.out 1).trans rfl, (blk_cell BK1481.out 2).trans rfl, (blk_cell BK1459.out 0).trans rfl, (blk_cell BK1459.out 1).trans rfl, (blk_cell BK1459.out 2).trans rfl⟩ (fun hHeld => ?_)
   clear hK K
   refine norm_ (a' := ?_) ?_ ?_
   rotate_left
   ·show Act.put _ (some 64) _ = _
    simp only [Act.put, List.setIfInBounds_toArray, List.set_cons_zero, List.set_cons_succ, i64_w, i32_w]
    rfl
   refine one_ (i := 3) (N := some 65) #[true, true, true, true, false] rfl rfl (by kernel_rfl) (by decide) (fun K hK => ?_)
   refine goes_ Try.func22 (by kernel_rfl) rfl #[.agg #[.int .i64 t1476, .int .i64 t1477, .slice Ao42 t1478.length co42], .agg #[.int .i64 t1492, .int .i64 t1493, .slice Ao66 t1494.length co66]] (by rfl) rfl rfl zay3 ?_
   with_reducible refine (laws_eqBoard.calls kj22 t1476 t1477 _ _ t1478 t1492 t1493 _ _ t1494 true _ ?side1 ?side2 ?side3 ?side4 A56.out).mono ?_
   (case side1 => exact zay29)
   (case side2 => exact (Kd.R_reads' HO_1482002.out).2.1)
   (case side3 => exact zay30)
   (case side4 => exact (Kd.R_reads' HO1496.out).2.1)
   rintro e w67 ⟨rfl, hb⟩
   refine ⟨_, rfl, ?_⟩
   have n0_ := Aside0.mk (Kd.R_below zay10 hb)
   have n1_ := Aside0.mk (Kd.R_below zay12 hb)
   have n2_ := Aside0.mk (Kd.R_below zay9 hb)
   have n3_ := Aside0.mk (Kd.R_below zay8 hb)
   have n4_ := Aside0.mk (Kd.R_below zay19 hb)
   have n5_ := Aside0.mk (blk_below (g := gb1459) (o := .cells #[.int .i64 a0_0, .int .i64 a0_1, .slice A0_2 l0_2.length c0_2] 24 (0, 0)) zay2 hb)
   have n6_ := Aside0.mk (blk_below (g := gb1460) (o := .cells #[.int .i64 a1_0, .int .i64 a1_1] 26 (0, 0)) zay4 hb)
   have n7_ := Aside0.mk (blk_below (g := gb1481) (o := .cells #[.int .i64 t1476, .int .i64 t1477, .slice Ao42 t1478.length co42] 30 (0, 0)) zay7 hb)
   have n8_ := Aside0.mk (below_step zay1 hb)
   clear HO_10
   clear HO_13
   clear HO_14
   clear HO_1482002
   clear HO1496
   clear BK1459
   clear BK1460
   clear BK1481
   clear HB
   have HO_10 := n0_
   have HO_13 := n1_
   have HO_14 := n2_
   have HO_1482002 := n3_
   have HO1496 := n4_
   have BK1459 := n5_
   have BK1460 := n6_
   have BK1481 := n7_
   have HB := n8_
   clear n0_ n1_ n2_ n3_ n4_ n5_ n6_ n7_ n8_
   (try clear hb)
   (try clear hb2)
   (try clear hk)
   (try clear hi)
   (try clear hna_)
   (try clear hnb_)
   refine hK.out _ _ ⟨(blk_cell BK1481.out 0).trans rfl, (blk_cell BK1481.out 1).trans rfl, (blk_cell BK1481.out 2).trans rfl, (blk_cell BK1459.out 0).trans rfl, (blk_cell BK1459.out 1).trans rfl, (blk_cell BK1459.out 2).trans rfl⟩ (fun hHeld => ?_)
   clear hK K
   refine norm_ (a' := ?_) ?_ ?_
   rotate_left
   ·show Act.put _ (some 65) _ = _
    simp only [Act.put, List.setIfInBounds_toArray, List.set_cons_zero, List.set_cons_succ, i64_w, i32_w]
    rfl
   refine pure_ (i := 4) (N := some 66) (v := ?_) (a' := ?_) #[true, true, true, true, true] rfl rfl (by kernel_rfl) (fun _ _ _ h => h) (Or.inl ⟨by rfl, ?_⟩) ?_ ?_
   rotate_left
   ·intro w'
    go_simp
    with_reducible rfl
   rotate_left
   ·simp only [Act.put, List.setIfInBounds_toArray, List.set_cons_zero, List.set_cons_succ, i64_w, i32_w]
    rfl
   refine done_ (by kernel_rfl) ?_
   go_upto_region 20 with (first | ((with_reducible refine gate_callee (f := 19) rfl ?_); refine goesL_ (some 69) rfl rfl Try.func19 (by kernel_rfl) rfl #[.slice A2 l2.length c2] rfl zay3 ?_; (with_reducible refine (laws_toIntS.calls kj22 _ _ l2 t1498 _ ?side1 ?side2 A58.out).mono ?_); (case side1 => exact zay22); (case side2 => exact HC2.out); rintro e w68 ⟨v1499, rfl, ho0, hb⟩; refine ⟨_, rfl, ?_⟩; have n0_ := Aside0.mk (Kd.R_elder' zay10 (Kd.R_base ho0) hb); have n1_ := Aside0.mk (Kd.R_elder' zay12 (Kd.R_base ho0) hb); have n2_ := Aside0.mk (Kd.R_elder' zay9 (Kd.R_base ho0) hb); have n3_ := Aside0.mk (Kd.R_elder' zay8 (Kd.R_base ho0) hb); have n4_ := Aside0.mk (Kd.R_elder' zay19 (Kd.R_base ho0) hb); have n5_ := Aside0.mk (Kd.R_lower (Kd.R_new' (Kd.R_new' (Kd.R_new' (Kd.R_new' (Kd.R_new' ho0 (Kd.R_lt zay10)) (Kd.R_lt zay12)) (Kd.R_lt zay9)) (Kd.R_lt zay8)) (Kd.R_lt zay19)) (below_size zay1)); have n6_ := Aside0.mk (blk_below (g := gb1459) (o := .cells #[.int .i64 a0_0, .int .i64 a0_1, .slice A0_2 l0_2.length c0_2] 24 (0, 0)) zay2 hb); have n7_ := Aside0.mk (blk_below (g := gb1460) (o := .cells #[.int .i64 a1_0, .int .i64 a1_1] 26 (0, 0)) zay4 hb); have n8_ := Aside0.mk (blk_below (g := gb1481) (o := .cells #[.int .i64 t1476, .int .i64 t1477, .slice Ao42 t1478.length co42] 30 (0, 0)) zay7 hb); have n9_ := Aside0.mk (below_step zay1 hb); clear HO_10; clear HO_13; clear HO_14; clear HO_1482002; clear HO1496; clear BK1459; clear BK1460; clear BK1481; clear HB; have HO_10 := n0_; have HO_13 := n1_; have HO_14 := n2_; have HO_1482002 := n3_; have HO1496 := n4_; have HO1500 := n5_; have BK1459 := n6_; have BK1460 := n7_; have BK1481 := n8_; have HB := n9_; clear n0_ n1_ n2_ n3_ n4_ n5_ n6_ n7_ n8_ n9_; (try clear hb); (try clear hb2); (try clear hk); (try clear hi); (try clear ho0); (try clear hna_); (try clear hnb_); obtain ⟨Ao69, co69, eo69⟩ := Kd.R_slice HO1500.out; subst eo69) | ((with_reducible refine gate_callee (f := 21) rfl ?_); refine goesL_ (some 70) rfl rfl Try.func21 (by kernel_rfl) rfl #[.slice Ao46 t1482.length co46, .slice Ao69 t1498.length co69] rfl zay3 ?_; (with_reducible refine (laws_eqIntS.calls kj22 _ _ t1482 _ _ t1498 true _ ?side1 ?side2 ?side3 ?side4 A59.out).mono ?_); (case side1 => exact zay48); (case side2 => exact (Kd.R_reads' HO_13.out).2.1); (case side3 => exact zay45); (case side4 => exact (Kd.R_reads' HO1500.out).2.1); rintro e w' ⟨rfl, ⟨nd, rfl⟩⟩; refine ⟨_, rfl, ?_⟩; have hnb70 := NB1481_1459.out; have hnc70 := NB1459_1481.out; have hnb71 := NB1481_1460.out; have hnc71 := NB1460_1481.out; have hcz72_0 : w68.cell? ⟨gb1481, 0, none⟩ = some (.int .i64 t1476) := (blk_cell BK1481.out 0).trans rfl; have hcz72_1 : w68.cell? ⟨gb1481, 1, none⟩ = some (.int .i64 t1477) := (blk_cell BK1481.out 1).trans rfl; have hcz72_2 : w68.cell? ⟨gb1481, 2, none⟩ = some (.slice Ao42 t1478.length co42) := (blk_cell BK1481.out 2).trans rfl; have hfz72_0 := blk_frozen BK1481.out 0; have hfz72_1 := blk_frozen BK1481.out 1; have hfz72_2 := blk_frozen BK1481.out 2) | ((with_reducible refine gate_callee (f := 23) rfl ?_); refine goesL_ (some 74) rfl rfl Try.func23 (by kernel_rfl) rfl #[.agg #[.int .i64 t1476, .int .i64 t1477, .slice Ao42 t1478.length co42], .int .i64 1] rfl zay3 ?_; (with_reducible refine (laws_markBoard.calls kj22 t1476 t1477 (fun k_ => some k_ = (.slice Ao42 t1478.length co42 : Value).ownBlock) (.slice Ao42 t1478.length co42) t1478 1 t1502 t1503 w _ ?side1 ?side2 A61.out).mono ?_); (case side1 => exact zay1); (case side2 => exact Kd.R_tight rfl HO_1482002.out); rintro e w73 ⟨rfl, hy0, hb, hkp⟩; refine ⟨_, rfl, ?_⟩; have n0_ := Aside0.mk (Kd.R_mono (ok' := fun k_ => some k_ ≠ (.slice Ao46 t1482.length co46 : Value).ownBlock ∧ some k_ ≠ (v1488 : Value).ownBlock ∧ some k_ ≠ (.slice Ao42 t1478.length co42 : Value).ownBlock ∧ some k_ ≠ (.slice Ao66 t1494.length co66 : Value).ownBlock ∧ some k_ ≠ (.slice Ao69 t1498.length co69 : Value).ownBlock) (Kd.R_keptB (HO_10.out) hkp (fun k_ hk_ hs_ => (hk_.1.1.2.2) hs_)) (fun k_ hk_ => ⟨hk_.1.1.1.1, hk_.1.1.1.2.1, hk_.1.1.1.2.2, hk_.1.1.2, hk_.1.2⟩)); have n1_ := Aside0.mk (Kd.R_mono (ok' := fun k_ => some k_ ≠ (v1473 : Value).ownBlock ∧ some k_ ≠ (v1488 : Value).ownBlock ∧ some k_ ≠ (.slice Ao42 t1478.length co42 : Value).ownBlock ∧ some k_ ≠ (.slice Ao66 t1494.length co66 : Value).ownBlock ∧ some k_ ≠ (.slice Ao69 t1498.length co69 : Value).ownBlock) (Kd.R_keptB (HO_13.out) hkp (fun k_ hk_ hs_ => (hk_.1.1.2.2) hs_)) (fun k_ hk_ => ⟨hk_.1.1.1.1, hk_.1.1.1.2.1, hk_.1.1.1.2.2, hk_.1.1.2, hk_.1.2⟩)); have n2_ := Aside0.mk (Kd.R_mono (ok' := fun k_ => some k_ ≠ (v1473 : Value).ownBlock ∧ some k_ ≠ (.slice Ao46 t1482.length co46 : Value).ownBlock ∧ some k_ ≠ (.slice Ao42 t1478.length co42 : Value).ownBlock ∧ some k_ ≠ (.slice Ao66 t1494.length co66 : Value).ownBlock ∧ some k_ ≠ (.slice Ao69 t1498.length co69 : Value).ownBlock) (Kd.R_keptB (HO_14.out) hkp (fun k_ hk_ hs_ => (hk_.1.1.2.2) hs_)) (fun k_ hk_ => ⟨hk_.1.1.1.1, hk_.1.1.1.2.1, hk_.1.1.1.2.2, hk_.1.1.2, hk_.1.2⟩)); have n3_ := Aside0.mk (Kd.R_reok rfl hy0 (fun k_ e_ => HO_1482002.out.1 k_ e_)); have n4_ := Aside0.mk (blk_kept zay2 hkp (fun hs_ => (fun e_ => (Kd.R_ne HO_1482002.out BK1459.out (by decide)) e_) hs_)); have n5_ := Aside0.mk (blk_kept zay4 hkp (fun hs_ => (fun e_ => (Kd.R_ne HO_1482002.out BK1460.out (by decide)) e_) hs_)); have n6_ := Aside0.mk (blk_kept zay7 hkp (fun hs_ => (fun e_ => (Kd.R_ne HO_1482002.out BK1481.out (by decide)) e_) hs_)); have n7_ := Aside0.mk (Kd.R_mono (ok' := fun k_ => some k_ ≠ (v1473 : Value).ownBlock ∧ some k_ ≠ (.slice Ao46 t1482.length co46 : Value).ownBlock ∧ some k_ ≠ (v1488 : Value).ownBlock ∧ some k_ ≠ (.slice Ao42 t1478.length co42 : Value).ownBlock ∧ some k_ ≠ (.slice Ao69 t1498.length co69 : Value).ownBlock) (Kd.R_keptB (HO1496.out) hkp (fun k_ hk_ hs_ => (hk_.1.2) hs_)) (fun k_ hk_ => ⟨hk_.1.1.1.1.1.2, hk_.1.1.1.1.2, hk_.1.1.1.2, hk_.1.1.2, hk_.1.2⟩)); have n8_ := Aside0.mk (Kd.R_mono (ok' := fun k_ => some k_ ≠ (v1473 : Value).ownBlock ∧ some k_ ≠ (.slice Ao46 t1482.length co46 : Value).ownBlock ∧ some k_ ≠ (v1488 : Value).ownBlock ∧ some k_ ≠ (.slice Ao42 t1478.length co42 : Value).ownBlock ∧ some k_ ≠ (.slice Ao66 t1494.length co66 : Value).ownBlock) (Kd.R_keptB (HO1500.out) hkp (fun k_ hk_ hs_ => (hk_.1.2) hs_)) (fun k_ hk_ => ⟨hk_.1.1.1.1.1.2, hk_.1.1.1.1.2, hk_.1.1.1.2, hk_.1.1.2, hk_.1.2⟩)); have n9_ := Aside0.mk (hb); clear HO_10; clear HO_13; clear HO_14; clear HO_1482002; clear BK1459; clear BK1460; clear BK1481; clear HO1496; clear HO1500; clear HB; have HO_10 := n0_; have HO_13 := n1_; have HO_14 := n2_; have HO_1482002 := n3_; have BK1459 := n4_; have BK1460 := n5_; have BK1481 := n6_; have HO1496 := n7_; have HO1500 := n8_; have HB := n9_; clear n0_ n1_ n2_ n3_ n4_ n5_ n6_ n7_ n8_ n9_; (try clear hb); (try clear hkp); (try clear hy0)) | ((with_reducible refine gate_callee (f := 24) rfl ?_); refine goesL_ (some 77) rfl rfl Try.func24 (by kernel_rfl) rfl #[.slice Ao46 t1482.length co46, .int .i64 t1502] rfl zay3 ?_; (with_reducible refine (laws_markIntS.calls kj22 (fun k_ => some k_ = (.slice Ao46 t1482.length co46 : Value).ownBlock) (.slice Ao46 t1482.length co46) t1482 t1502 t1504 t1505 w _ ?side1 ?side2 A62.out).mono ?_); (case side1 => exact zay1); (case side2 => exact Kd.R_tight rfl HO_13.out); rintro e w74 ⟨rfl, hy0, hb, hkp⟩; refine ⟨_, rfl, ?_⟩; have n0_ := Aside0.mk (Kd.R_mono (ok' := fun k_ => some k_ ≠ (.slice Ao46 t1482.length co46 : Value).ownBlock ∧ some k_ ≠ (v1488 : Value).ownBlock ∧ some k_ ≠ (.slice Ao42 t1478.length co42 : Value).ownBlock ∧ some k_ ≠ (.slice Ao66 t1494.length co66 : Value).ownBlock ∧ some k_ ≠ (.slice Ao69 t1498.length co69 : Value).ownBlock) (Kd.R_keptB (HO_10.out) hkp (fun k_ hk_ hs_ => (hk_.1) hs_)) (fun k_ hk_ => ⟨hk_.1.1, hk_.1.2.1, hk_.1.2.2.1, hk_.1.2.2.2.1, hk_.1.2.2.2.2⟩)); have n1_ := Aside0.mk (Kd.R_reok rfl hy0 (fun k_ e_ => HO_13.out.1 k_ e_)); have n2_ := Aside0.mk (Kd.R_mono (ok' := fun k_ => some k_ ≠ (v1473 : Value).ownBlock ∧ some k_ ≠ (.slice Ao46 t1482.length co46 : Value).ownBlock ∧ some k_ ≠ (.slice Ao42 t1478.length co42 : Value).ownBlock ∧ some k_ ≠ (.slice Ao66 t1494.length co66 : Value).ownBlock ∧ some k_ ≠ (.slice Ao69 t1498.length co69 : Value).ownBlock) (Kd.R_keptB (HO_14.out) hkp (fun k_ hk_ hs_ => (hk_.2.1) hs_)) (fun k_ hk_ => ⟨hk_.1.1, hk_.1.2.1, hk_.1.2.2.1, hk_.1.2.2.2.1, hk_.1.2.2.2.2⟩)); have n3_ := Aside0.mk (Kd.R_mono (ok' := fun k_ => some k_ ≠ (v1473 : Value).ownBlock ∧ some k_ ≠ (.slice Ao46 t1482.length co46 : Value).ownBlock ∧ some k_ ≠ (v1488 : Value).ownBlock ∧ some k_ ≠ (.slice Ao66 t1494.length co66 : Value).ownBlock ∧ some k_ ≠ (.slice Ao69 t1498.length co69 : Value).ownBlock) (Kd.R_keptB (HO_1482002.out) hkp (fun k_ hk_ hs_ => (hk_.1.1.2.1) hs_)) (fun k_ hk_ => ⟨hk_.1.1.1.1, hk_.1.1.1.2.1, hk_.1.1.1.2.2, hk_.1.1.2, hk_.1.2⟩)); have n4_ := Aside0.mk (blk_kept zay2 hkp (fun hs_ => (fun e_ => (Kd.R_ne HO_13.out BK1459.out (by decide)) e_) hs_)); have n5_ := Aside0.mk (blk_kept zay4 hkp (fun hs_ => (fun e_ => (Kd.R_ne HO_13.out BK1460.out (by decide)) e_) hs_)); have n6_ := Aside0.mk (blk_kept zay7 hkp (fun hs_ => (fun e_ => (Kd.R_ne HO_13.out BK1481.out (by decide)) e_) hs_)); have n7_ := Aside0.mk (Kd.R_mono (ok' := fun k_ => some k_ ≠ (v1473 : Value).ownBlock ∧ some k_ ≠ (.slice Ao46 t1482.length co46 : Value).ownBlock ∧ some k_ ≠ (v1488 : Value).ownBlock ∧ some k_ ≠ (.slice Ao42 t1478.length co42 : Value).ownBlock ∧ some k_ ≠ (.slice Ao69 t1498.length co69 : Value).ownBlock) (Kd.R_keptB (HO1496.out) hkp (fun k_ hk_ hs_ => (hk_.2.1) hs_)) (fun k_ hk_ => ⟨hk_.1.1, hk_.1.2.1, hk_.1.2.2.1, hk_.1.2.2.2.1, hk_.1.2.2.2.2⟩)); have n8_ := Aside0.mk (Kd.R_mono (ok' := fun k_ => some k_ ≠ (v1473 : Value).ownBlock ∧ some k_ ≠ (.slice Ao46 t1482.length co46 : Value).ownBlock ∧ some k_ ≠ (v1488 : Value).ownBlock ∧ some k_ ≠ (.slice Ao42 t1478.length co42 : Value).ownBlock ∧ some k_ ≠ (.slice Ao66 t1494.length co66 : Value).ownBlock) (Kd.R_keptB (HO1500.out) hkp (fun k_ hk_ hs_ => (hk_.2.1) hs_)) (fun k_ hk_ => ⟨hk_.1.1, hk_.1.2.1, hk_.1.2.2.1, hk_.1.2.2.2.1, hk_.1.2.2.2.2⟩)); have n9_ := Aside0.mk (hb); clear HO_10; clear HO_13; clear HO_14; clear HO_1482002; clear BK1459; clear BK1460; clear BK1481; clear HO1496; clear HO1500; clear HB; have HO_10 := n0_; have HO_13 := n1_; have HO_14 := n2_; have HO_1482002 := n3_; have BK1459 := n4_; have BK1460 := n5_; have BK1481 := n6_; have HO1496 := n7_; have HO1500 := n8_; have HB := n9_; clear n0_ n1_ n2_ n3_ n4_ n5_ n6_ n7_ n8_ n9_; (try clear hb); (try clear hkp); (try clear hy0)))
   (try simp only [Act.put, List.setIfInBounds_toArray, List.set_cons_zero, List.set_cons_succ])
   go_cut [90] (fun v90 wc => ∃ (kq : Nat) (x90_62 : Bool), v90 = .bool x90_62 ∧ Aside0 (laws_FnExactSpinTour.j1 kq l2 a3 t1472 t1475 t1487 x90_62 a0_0 a0_1 l0_2 a1_0 a1_1 = some r) ∧ Aside0 (kq ≤ kj22) ∧ Aside0 (Kd.R (Kd.int .i64) 3 wc w.heap.size (fun k_ => some k_ ≠ (v1488 : Value).ownBlock ∧ some k_ ≠ ((.slice Ao42 t1478.length co42) : Value).ownBlock) v1473 t1472) ∧ Aside0 (Kd.R (Kd.int .i64) 3 wc w.heap.size (fun k_ => some k_ ≠ (v1473 : Value).ownBlock ∧ some k_ ≠ ((.slice Ao42 t1478.length co42) : Value).ownBlock) v1488 t1487) ∧ Aside0 (Kd.R (Kd.int .i64) 3 wc w.heap.size (fun k_ => some k_ ≠ (v1473 : Value).ownBlock ∧ some k_ ≠ (v1488 : Value).ownBlock) (.slice Ao42 t1478.length co42) t1503) ∧ Aside0 (wc.heap[gb1459]? = some (.cells #[.int .i64 a0_0, .int .i64 a0_1, (.slice A0_2 l0_2.length c0_2)] 24 (0, 0))) ∧ Aside0 (wc.heap[gb1460]? = some (.cells #[.int .i64 a1_0, .int .i64 a1_1] 26 (0, 0))) ∧ Aside0 (wc.heap[gb1481]? = some (.cells #[.int .i64 t1476, .int .i64 t1477, (.slice Ao42 t1478.length co42)] 30 (0, 0))) ∧ Aside0 (Below w.heap.size w wc))
   case first =>
    have H := HC63.out
    clear HC63
    by_cases c75 : t1504 < 0
    ·rw [if_pos c75] at H
     have c75b0 : decide (t1504 < 0) = true := decide_eq_true c75
     clear c75
     (first | rw [c75b0] | (simp only [i64_w, i32_w]; rw [c75b0]) | skip)
     have H' := Aside0.mk H
     clear H
     go_wp2
     go_meet
     case rel => exact ⟨_, (true), zay35, H', ⟨by have := HJ22.out; first | omega | exact Nat.le_refl _⟩, ⟨zay33⟩, ⟨zay34⟩, ⟨zay32⟩, ⟨zay2⟩, ⟨zay4⟩, ⟨zay7⟩, ⟨zay1⟩⟩
    rw [if_neg c75] at H
    have c75b0 : decide (t1504 < 0) = false := decide_eq_false c75
    clear c75
    (first | rw [c75b0] | (simp only [i64_w, i32_w]; rw [c75b0]) | skip)
    replace H := Option.bind_eq_some_iff.mp H
    obtain ⟨t1506, A760, H⟩ := H
    replace H : (if t1506 = true then (laws_FnExactSpinTour.j1 kj22 l2 a3 t1472 t1475 t1487 (t1490 != t1475) a0_0 a0_1 l0_2 a1_0 a1_1) else (laws_FnExactSpinTour.j1 kj22 l2 a3 t1472 t1475 t1487 true a0_0 a0_1 l0_2 a1_0 a1_1)) = some r := H
    have A76 := Aside0.mk A760
    clear A760
    by_cases c77 : t1506 = true
    ·subst c77
     have H1 : (laws_FnExactSpinTour.j1 kj22 l2 a3 t1472 t1475 t1487 (t1490 != t1475) a0_0 a0_1 l0_2 a1_0 a1_1) = some r := by rw [if_pos rfl] at H; exact H
     clear H
     have H := H1
     clear H1
     have H' := Aside0.mk H
     clear H
     obtain ⟨Ao78, co78, eo78⟩ := Kd.R_slice HO_14.out
     subst eo78
     obtain ⟨Ao79, co79, eo79⟩ := Kd.R_slice HO_10.out
     subst eo79
     go_wp2_with (first | (go_at_call 21; (with_reducible refine (laws_eqIntS.calls kj22 _ _ t1487 _ _ t1472 true _ ?side1 ?side2 ?side3 ?side4 A76.out).mono ?_); (case side1 => exact zay14); (case side2 => exact (Kd.R_reads' HO_14.out).2.1); (case side3 => exact zay21); (case side4 => exact (Kd.R_reads' HO_10.out).2.1); rintro e w' ⟨rfl, ⟨nd, rfl⟩⟩))
     go_meet
     case rel => exact ⟨_, ((t1490 != t1475)), zay35, H', ⟨by have := HJ22.out; first | omega | exact Nat.le_refl _⟩, ⟨zay33⟩, ⟨zay34⟩, ⟨zay32⟩, ⟨zay2⟩, ⟨zay4⟩, ⟨zay7⟩, ⟨zay1⟩⟩
    replace c77 := Bool.eq_false_iff.mpr c77
    subst c77
    have H1 : (laws_FnExactSpinTour.j1 kj22 l2 a3 t1472 t1475 t1487 true a0_0 a0_1 l0_2 a1_0 a1_1) = some r := by rw [if_neg (show ¬ (false = true) by decide)] at H; exact H
    clear H
    have H := H1
    clear H1
    have H' := Aside0.mk H
    clear H
    obtain ⟨Ao80, co80, eo80⟩ := Kd.R_slice HO_14.out
    subst eo80
    obtain ⟨Ao81, co81, eo81⟩ := Kd.R_slice HO_10.out
    subst eo81
    go_wp2_with (first | (go_at_call 21; (with_reducible refine (laws_eqIntS.calls kj22 _ _ t1487 _ _ t1472 false _ ?side1 ?side2 ?side3 ?side4 A76.out).mono ?_); (case side1 => exact zay14); (case side2 => exact (Kd.R_reads' HO_14.out).2.1); (case side3 => exact zay21); (case side4 => exact (Kd.R_reads' HO_10.out).2.1); rintro e w' ⟨rfl, ⟨nd, rfl⟩⟩))
    go_meet
    case rel => exact ⟨_, (true), zay35, H', ⟨by have := HJ22.out; first | omega | exact Nat.le_refl _⟩, ⟨zay33⟩, ⟨zay34⟩, ⟨zay32⟩, ⟨zay2⟩, ⟨zay4⟩, ⟨zay7⟩, ⟨zay1⟩⟩
   case rest =>
    clear HC63
    try clear c1; try clear c2; try clear p2; try clear c3; try clear c4; try clear c5; try clear c5b0; try clear c5b1; try clear c6; try clear c7; try clear c9; try clear c9b0; try clear c12; try clear c14; try clear c15; try clear c17; try clear c18; try clear c19; try clear c21; try clear c22; try clear c23; try clear c24; try clear c26; try clear c39; try clear c40; try clear c46; try clear c47; try clear c49; try clear c54; try clear c57; try clear c60; try clear c70; try clear c71; try clear c75; try clear c75b0; try clear c77; try clear hcz13_0; try clear hcz13_1; try clear hcz13_2; try clear hcz27_0
    try clear hcz27_1; try clear hcz27_2; try clear hcz36_0; try clear hcz36_1; try clear hcz36_2; try clear hcz41_0; try clear hcz41_1; try clear hcz41_2; try clear hcz72_0; try clear hcz72_1; try clear hcz72_2; try clear hfz13_0; try clear hfz13_1; try clear hfz13_2; try clear hfz27_0; try clear hfz27_1; try clear hfz27_2; try clear hfz36_0; try clear hfz36_1; try clear hfz36_2; try clear hfz41_0; try clear hfz41_1; try clear hfz41_2; try clear hfz72_0; try clear hfz72_1; try clear hfz72_2; try clear p2
    obtain ⟨kq, x90_62, rfl, HA, HJ62, HO_10, HO_14, HO_1482002, BK1459, BK1460, BK1481, HB⟩ := hcut
    have hl1482002_62 := (Kd.R_reads' HO_1482002.out).1
    rw [hl1482002_62] at HO_1482002
    (try simp only [hl1482002_62])
    (try simp only [hl1482002_62] at BK1459)
    (try simp only [hl1482002_62] at BK1460)
    (try simp only [hl1482002_62] at BK1481)
    (try simp only [hl1482002_62] at HO_10)
    (try simp only [hl1482002_62] at HO_14)
    cases kq with
    | zero => exact absurd HA.out (by simp [laws_FnExactSpinTour.j1])
    | succ kj62 =>
     have H := HA.out
     clear HA
     simp only [laws_FnExactSpinTour.j1] at H
     by_cases c82 : x90_62 = true
     ·subst c82
      have H1 : (some false) = some r := by rw [if_pos rfl] at H; exact H
      clear H
      have H := H1
      clear H1
      obtain rfl := Option.some.inj H
      go_wp2
      go_ret
      exact ⟨zay17, zay1⟩
     replace c82 := Bool.eq_false_iff.mpr c82
     subst c82
     have H1 : ((laws_markIntS.f kj62 t1487 1).bind fun bt1507 => ((laws_heldIntS.f kj62 bt1507.2 1).bind fun t1509 => (if t1509 < 0 then (some false) else (if t1509 = bt1507.1 then ((laws_toBoard.f kj62 a0_0 a0_1 l0_2).bind fun bt1510 => ((laws_toLeaper.f a1_0 a1_1).bind fun bt1515 => ((laws_toIntS.f kj62 l2).bind fun t1517 => ((impl_SpinTour.f kj62 bt1510.1 bt1510.2.1 bt1510.2.2 bt1515.1 bt1515.2 t1517 a3).bind fun bt1520 => ((laws_eqIntS.f kj62 bt1520.1 t1472).bind fun t1524 => (if t1524 = true then (laws_FnExactSpinTour.j2 kj62 bt1507.2 bt1507.1 (bt1520.2 != t1475)) else (laws_FnExactSpinTour.j2 kj62 bt1507.2 bt1507.1 true))))))) else (some false))))) = some r := by rw [if_neg (show ¬ (false = true) by decide)] at H; exact H
     clear H
     have H := H1
     clear H1
     replace H := Option.bind_eq_some_iff.mp H
     obtain ⟨⟨t1507, t1508⟩, A830, H⟩ := H
     replace H : ((laws_heldIntS.f kj62 t1508 1).bind fun t1509 => (if t1509 < 0 then (some false) else (if t1509 = t1507 then ((laws_toBoard.f kj62 a0_0 a0_1 l0_2).bind fun bt1510 => ((laws_toLeaper.f a1_0 a1_1).bind fun bt1515 => ((laws_toIntS.f kj62 l2).bind fun t1517 => ((impl_SpinTour.f kj62 bt1510.1 bt1510.2.1 bt1510.2.2 bt1515.1 bt1515.2 t1517 a3).bind fun bt1520 => ((laws_eqIntS.f kj62 bt1520.1 t1472).bind fun t1524 => (if t1524 = true then (laws_FnExactSpinTour.j2 kj62 t1508 t1507 (bt1520.2 != t1475)) else (laws_FnExactSpinTour.j2 kj62 t1508 t1507 true))))))) else (some false)))) = some r := H
     have A83 := Aside0.mk A830
     clear A830
     replace H := Option.bind_eq_some_iff.mp H
     obtain ⟨t1509, A840, H⟩ := H
     replace H : (if t1509 < 0 then (some false) else (if t1509 = t1507 then ((laws_toBoard.f kj62 a0_0 a0_1 l0_2).bind fun bt1510 => ((laws_toLeaper.f a1_0 a1_1).bind fun bt1515 => ((laws_toIntS.f kj62 l2).bind fun t1517 => ((impl_SpinTour.f kj62 bt1510.1 bt1510.2.1 bt1510.2.2 bt1515.1 bt1515.2 t1517 a3).bind fun bt1520 => ((laws_eqIntS.f kj62 bt1520.1 t1472).bind fun t1524 => (if t1524 = true then (laws_FnExactSpinTour.j2 kj62 t1508 t1507 (bt1520.2 != t1475)) else (laws_FnExactSpinTour.j2 kj62 t1508 t1507 true))))))) else (some false))) = some r := H
     have A84 := Aside0.mk A840
     clear A840
     by_cases c85 : t1509 < 0
     ·rw [if_pos c85] at H
      have c85b0 : decide (t1509 < 0) = true := decide_eq_true c85
      clear c85
      obtain rfl := Option.some.inj H
      obtain ⟨Ao86, co86, eo86⟩ := Kd.R_slice HO_14.out
      subst eo86
      go_wp2_with (first | ((with_reducible refine gate_callee (f := 24) rfl ?_); refine goesL_ (some 93) rfl rfl Try.func24 (by kernel_rfl) rfl #[.slice Ao86 t1487.length co86, .int .i64 1] rfl zay3 ?_; (with_reducible refine (laws_markIntS.calls kj62 (fun k_ => some k_ = (.slice Ao86 t1487.length co86 : Value).ownBlock) (.slice Ao86 t1487.length co86) t1487 1 t1507 t1508 w _ ?side1 ?side2 A83.out).mono ?_); (case side1 => exact zay1); (case side2 => exact Kd.R_tight rfl HO_14.out); rintro e w87 ⟨rfl, hy0, hb, hkp⟩; refine ⟨_, rfl, ?_⟩; have n0_ := Aside0.mk (Kd.R_mono (ok' := fun k_ => some k_ ≠ (.slice Ao86 t1487.length co86 : Value).ownBlock ∧ some k_ ≠ (.slice Ao42 t1503.length co42 : Value).ownBlock) (Kd.R_keptB (HO_10.out) hkp (fun k_ hk_ hs_ => (hk_.1) hs_)) (fun k_ hk_ => ⟨hk_.1.1, hk_.1.2⟩)); have n1_ := Aside0.mk (Kd.R_reok rfl hy0 (fun k_ e_ => HO_14.out.1 k_ e_)); have n2_ := Aside0.mk (Kd.R_mono (ok' := fun k_ => some k_ ≠ (v1473 : Value).ownBlock ∧ some k_ ≠ (.slice Ao86 t1487.length co86 : Value).ownBlock) (Kd.R_keptB (HO_1482002.out) hkp (fun k_ hk_ hs_ => (hk_.2) hs_)) (fun k_ hk_ => ⟨hk_.1.1, hk_.1.2⟩)); have n3_ := Aside0.mk (blk_kept zay2 hkp (fun hs_ => (fun e_ => (Kd.R_ne HO_14.out BK1459.out (by decide)) e_) hs_)); have n4_ := Aside0.mk (blk_kept zay4 hkp (fun hs_ => (fun e_ => (Kd.R_ne HO_14.out BK1460.out (by decide)) e_) hs_)); have n5_ := Aside0.mk (blk_kept zay7 hkp (fun hs_ => (fun e_ => (Kd.R_ne HO_14.out BK1481.out (by decide)) e_) hs_)); have n6_ := Aside0.mk (hb); clear HO_10; clear HO_14; clear HO_1482002; clear BK1459; clear BK1460; clear BK1481; clear HB; have HO_10 := n0_; have HO_14 := n1_; have HO_1482002 := n2_; have BK1459 := n3_; have BK1460 := n4_; have BK1481 := n5_; have HB := n6_; clear n0_ n1_ n2_ n3_ n4_ n5_ n6_; (try clear hb); (try clear hkp); (try clear hy0)) | ((with_reducible refine gate_callee (f := 25) rfl ?_); refine goesL_ (some 96) rfl rfl Try.func25 (by kernel_rfl) rfl #[.slice Ao86 t1508.length co86, .int .i64 1] rfl zay23 ?_; (with_reducible refine (laws_heldIntS.calls kj62 _ _ t1508 1 t1509 _ ?side1 ?side2 A84.out).mono ?_); (case side1 => exact zay14); (case side2 => exact zay37); rintro e w' ⟨rfl, ⟨nd, rfl⟩⟩; refine ⟨_, rfl, ?_⟩))
      go_ret
      exact ⟨zay17, zay1⟩
     rw [if_neg c85] at H
     have c85b0 : decide (t1509 < 0) = false := decide_eq_false c85
     clear c85
     by_cases c88 : t1509 = t1507
     rotate_left
     ·rw [if_neg c88] at H
      have c88b0 : (t1509 == t1507) = false := beq_eq_false_iff_ne.mpr c88
      have c88b1 : (t1509 != t1507) = true := bne_iff_ne.mpr c88
      obtain rfl := Option.some.inj H
      obtain ⟨Ao113, co113, eo113⟩ := Kd.R_slice HO_14.out
      subst eo113
      go_wp2_with (first | ((with_reducible refine gate_callee (f := 24) rfl ?_); refine goesL_ (some 93) rfl rfl Try.func24 (by kernel_rfl) rfl #[.slice Ao113 t1487.length co113, .int .i64 1] rfl zay3 ?_; (with_reducible refine (laws_markIntS.calls kj62 (fun k_ => some k_ = (.slice Ao113 t1487.length co113 : Value).ownBlock) (.slice Ao113 t1487.length co113) t1487 1 t1507 t1508 w _ ?side1 ?side2 A83.out).mono ?_); (case side1 => exact zay1); (case side2 => exact Kd.R_tight rfl HO_14.out); rintro e w114 ⟨rfl, hy0, hb, hkp⟩; refine ⟨_, rfl, ?_⟩; have n0_ := Aside0.mk (Kd.R_mono (ok' := fun k_ => some k_ ≠ (.slice Ao113 t1487.length co113 : Value).ownBlock ∧ some k_ ≠ (.slice Ao42 t1503.length co42 : Value).ownBlock) (Kd.R_keptB (HO_10.out) hkp (fun k_ hk_ hs_ => (hk_.1) hs_)) (fun k_ hk_ => ⟨hk_.1.1, hk_.1.2⟩)); have n1_ := Aside0.mk (Kd.R_reok rfl hy0 (fun k_ e_ => HO_14.out.1 k_ e_)); have n2_ := Aside0.mk (Kd.R_mono (ok' := fun k_ => some k_ ≠ (v1473 : Value).ownBlock ∧ some k_ ≠ (.slice Ao113 t1487.length co113 : Value).ownBlock) (Kd.R_keptB (HO_1482002.out) hkp (fun k_ hk_ hs_ => (hk_.2) hs_)) (fun k_ hk_ => ⟨hk_.1.1, hk_.1.2⟩)); have n3_ := Aside0.mk (blk_kept zay2 hkp (fun hs_ => (fun e_ => (Kd.R_ne HO_14.out BK1459.out (by decide)) e_) hs_)); have n4_ := Aside0.mk (blk_kept zay4 hkp (fun hs_ => (fun e_ => (Kd.R_ne HO_14.out BK1460.out (by decide)) e_) hs_)); have n5_ := Aside0.mk (blk_kept zay7 hkp (fun hs_ => (fun e_ => (Kd.R_ne HO_14.out BK1481.out (by decide)) e_) hs_)); have n6_ := Aside0.mk (hb); clear HO_10; clear HO_14; clear HO_1482002; clear BK1459; clear BK1460; clear BK1481; clear HB; have HO_10 := n0_; have HO_14 := n1_; have HO_1482002 := n2_; have BK1459 := n3_; have BK1460 := n4_; have BK1481 := n5_; have HB := n6_; clear n0_ n1_ n2_ n3_ n4_ n5_ n6_; (try clear hb); (try clear hkp); (try clear hy0)) | ((with_reducible refine gate_callee (f := 25) rfl ?_); refine goesL_ (some 96) rfl rfl Try.func25 (by kernel_rfl) rfl #[.slice Ao113 t1508.length co113, .int .i64 1] rfl zay23 ?_; (with_reducible refine (laws_heldIntS.calls kj62 _ _ t1508 1 t1509 _ ?side1 ?side2 A84.out).mono ?_); (case side1 => exact zay14); (case side2 => exact zay37); rintro e w' ⟨rfl, ⟨nd, rfl⟩⟩; refine ⟨_, rfl, ?_⟩))
      go_ret
      exact ⟨zay17, zay1⟩
     rw [if_pos c88] at H
     have c88b0 : (t1509 == t1507) = true := beq_iff_eq.mpr c88
     have c88b1 : (t1509 != t1507) = false := bne_eq_false_iff_eq.mpr c88
     clear c88
     replace H := Option.bind_eq_some_iff.mp H
     obtain ⟨⟨t1510, t1511, t1512⟩, A890, H⟩ := H
     replace H : ((laws_toLeaper.f a1_0 a1_1).bind fun bt1515 => ((laws_toIntS.f kj62 l2).bind fun t1517 => ((impl_SpinTour.f kj62 t1510 t1511 t1512 bt1515.1 bt1515.2 t1517 a3).bind fun bt1520 => ((laws_eqIntS.f kj62 bt1520.1 t1472).bind fun t1524 => (if t1524 = true then (laws_FnExactSpinTour.j2 kj62 t1508 t1507 (bt1520.2 != t1475)) else (laws_FnExactSpinTour.j2 kj62 t1508 t1507 true)))))) = some r := H
     have A89 := Aside0.mk A890
     clear A890
     replace H := Option.bind_eq_some_iff.mp H
     obtain ⟨⟨t1515, t1516⟩, A900, H⟩ := H
     replace H : ((laws_toIntS.f kj62 l2).bind fun t1517 => ((impl_SpinTour.f kj62 t1510 t1511 t1512 t1515 t1516 t1517 a3).bind fun bt1520 => ((laws_eqIntS.f kj62 bt1520.1 t1472).bind fun t1524 => (if t1524 = true then (laws_FnExactSpinTour.j2 kj62 t1508 t1507 (bt1520.2 != t1475)) else (laws_FnExactSpinTour.j2 kj62 t1508 t1507 true))))) = some r := H
     have A90 := Aside0.mk A900
     clear A900
     replace H := Option.bind_eq_some_iff.mp H
     obtain ⟨t1517, A910, H⟩ := H
     replace H : ((impl_SpinTour.f kj62 t1510 t1511 t1512 t1515 t1516 t1517 a3).bind fun bt1520 => ((laws_eqIntS.f kj62 bt1520.1 t1472).bind fun t1524 => (if t1524 = true then (laws_FnExactSpinTour.j2 kj62 t1508 t1507 (bt1520.2 != t1475)) else (laws_FnExactSpinTour.j2 kj62 t1508 t1507 true)))) = some r := H
     have A91 := Aside0.mk A910
     clear A910
     replace H := Option.bind_eq_some_iff.mp H
     obtain ⟨⟨t1520, t1523⟩, A920, H⟩ := H
     replace H : ((laws_eqIntS.f kj62 t1520 t1472).bind fun t1524 => (if t1524 = true then (laws_FnExactSpinTour.j2 kj62 t1508 t1507 (t1523 != t1475)) else (laws_FnExactSpinTour.j2 kj62 t1508 t1507 true))) = some r := H
     have A92 := Aside0.mk A920
     clear A920
     have HC93 := Aside0.mk H
     clear H
     obtain ⟨Ao94, co94, eo94⟩ := Kd.R_slice HO_14.out
     subst eo94
     try go_wp2_with (first | ((with_reducible refine gate_callee (f := 24) rfl ?_); refine goesL_ (some 93) rfl rfl Try.func24 (by kernel_rfl) rfl #[.slice Ao94 t1487.length co94, .int .i64 1] rfl zay3 ?_; (with_reducible refine (laws_markIntS.calls kj62 (fun k_ => some k_ = (.slice Ao94 t1487.length co94 : Value).ownBlock) (.slice Ao94 t1487.length co94) t1487 1 t1507 t1508 w _ ?side1 ?side2 A83.out).mono ?_); (case side1 => exact zay1); (case side2 => exact Kd.R_tight rfl HO_14.out); rintro e w95 ⟨rfl, hy0, hb, hkp⟩; refine ⟨_, rfl, ?_⟩; have n0_ := Aside0.mk (Kd.R_mono (ok' := fun k_ => some k_ ≠ (.slice Ao94 t1487.length co94 : Value).ownBlock ∧ some k_ ≠ (.slice Ao42 t1503.length co42 : Value).ownBlock) (Kd.R_keptB (HO_10.out) hkp (fun k_ hk_ hs_ => (hk_.1) hs_)) (fun k_ hk_ => ⟨hk_.1.1, hk_.1.2⟩)); have n1_ := Aside0.mk (Kd.R_reok rfl hy0 (fun k_ e_ => HO_14.out.1 k_ e_)); have n2_ := Aside0.mk (Kd.R_mono (ok' := fun k_ => some k_ ≠ (v1473 : Value).ownBlock ∧ some k_ ≠ (.slice Ao94 t1487.length co94 : Value).ownBlock) (Kd.R_keptB (HO_1482002.out) hkp (fun k_ hk_ hs_ => (hk_.2) hs_)) (fun k_ hk_ => ⟨hk_.1.1, hk_.1.2⟩)); have n3_ := Aside0.mk (blk_kept zay2 hkp (fun hs_ => (fun e_ => (Kd.R_ne HO_14.out BK1459.out (by decide)) e_) hs_)); have n4_ := Aside0.mk (blk_kept zay4 hkp (fun hs_ => (fun e_ => (Kd.R_ne HO_14.out BK1460.out (by decide)) e_) hs_)); have n5_ := Aside0.mk (blk_kept zay7 hkp (fun hs_ => (fun e_ => (Kd.R_ne HO_14.out BK1481.out (by decide)) e_) hs_)); have n6_ := Aside0.mk (hb); clear HO_10; clear HO_14; clear HO_1482002; clear BK1459; clear BK1460; clear BK1481; clear HB; have HO_10 := n0_; have HO_14 := n1_; have HO_1482002 := n2_; have BK1459 := n3_; have BK1460 := n4_; have BK1481 := n5_; have HB := n6_; clear n0_ n1_ n2_ n3_ n4_ n5_ n6_; (try clear hb); (try clear hkp); (try clear hy0)) | ((with_reducible refine gate_callee (f := 25) rfl ?_); refine goesL_ (some 96) rfl rfl Try.func25 (by kernel_rfl) rfl #[.slice Ao94 t1508.length co94, .int .i64 1] rfl zay23 ?_; (with_reducible refine (laws_heldIntS.calls kj62 _ _ t1508 1 t1509 _ ?side1 ?side2 A84.out).mono ?_); (case side1 => exact zay14); (case side2 => exact zay37); rintro e w' ⟨rfl, ⟨nd, rfl⟩⟩; refine ⟨_, rfl, ?_⟩))
     (try (rw [drewN_self w95]; generalize hq_ : World.drewN w95 _ = w95; have n0_ : Aside0 (Kd.R (Kd.int .i64) 3 w95 w.heap.size (fun k_ => (some k_ ≠ (.slice Ao94 t1487.length co94 : Value).ownBlock ∧ some k_ ≠ (.slice Ao42 t1503.length co42 : Value).ownBlock)) v1473 t1472) := ⟨by rw [← hq_]; exact zay10⟩; have n1_ : Aside0 (Kd.R (Kd.int .i64) 3 w95 w.heap.size (fun k_ => (some k_ ≠ (v1473 : Value).ownBlock ∧ some k_ ≠ (.slice Ao42 t1503.length co42 : Value).ownBlock)) (.slice Ao94 t1487.length co94) t1508) := ⟨by rw [← hq_]; exact zay9⟩; have n2_ : Aside0 (Kd.R (Kd.int .i64) 3 w95 w.heap.size (fun k_ => (some k_ ≠ (v1473 : Value).ownBlock ∧ some k_ ≠ (.slice Ao94 t1487.length co94 : Value).ownBlock)) (.slice Ao42 t1503.length co42) t1503) := ⟨by rw [← hq_]; exact zay8⟩; have n3_ : Aside0 (w95.heap[gb1459]? = some (.cells #[.int .i64 a0_0, .int .i64 a0_1, .slice A0_2 l0_2.length c0_2] 24 (0, 0))) := ⟨by rw [← hq_]; exact zay2⟩; have n4_ : Aside0 (w95.heap[gb1460]? = some (.cells #[.int .i64 a1_0, .int .i64 a1_1] 26 (0, 0))) := ⟨by rw [← hq_]; exact zay4⟩; have n5_ : Aside0 (w95.heap[gb1481]? = some (.cells #[.int .i64 t1476, .int .i64 t1477, .slice Ao42 t1503.length co42] 30 (0, 0))) := ⟨by rw [← hq_]; exact zay7⟩; have n6_ : Aside0 (Below w.heap.size w w95) := ⟨by rw [← hq_]; exact zay1⟩; clear HO_10 HO_14 HO_1482002 BK1459 BK1460 BK1481 HB hq_; have HO_10 := n0_; have HO_14 := n1_; have HO_1482002 := n2_; have BK1459 := n3_; have BK1460 := n4_; have BK1481 := n5_; have HB := n6_; clear n0_ n1_ n2_ n3_ n4_ n5_ n6_))
     have n0_ := Aside0.mk (Kd.R_drew HO_10.out)
     have n1_ := Aside0.mk (Kd.R_drew HO_14.out)
     have n2_ := Aside0.mk (Kd.R_drew HO_1482002.out)
     have n3_ := Aside0.mk (blk_drew BK1459.out)
     have n4_ := Aside0.mk (blk_drew BK1460.out)
     have n5_ := Aside0.mk (blk_drew BK1481.out)
     have n6_ := Aside0.mk (below_drew1 HB.out)
     clear HO_10
     clear HO_14
     clear HO_1482002
     clear BK1459
     clear BK1460
     clear BK1481
     clear HB
     have HO_10 := n0_
     have HO_14 := n1_
     have HO_1482002 := n2_
     have BK1459 := n3_
     have BK1460 := n4_
     have BK1481 := n5_
     have HB := n6_
     clear n0_ n1_ n2_ n3_ n4_ n5_ n6_
     refine start_ (n := 13) (S := fun w' => w'.cell? ⟨gb1459, 0, none⟩ = some (.int .i64 a0_0) ∧ w'.cell? ⟨gb1459, 1, none⟩ = some (.int .i64 a0_1) ∧ w'.cell? ⟨gb1459, 2, none⟩ = some (.slice A0_2 l0_2.length c0_2) ∧ w'.cell? ⟨gb1460, 0, none⟩ = some (.int .i64 a1_0) ∧ w'.cell? ⟨gb1460, 1, none⟩ = some (.int .i64 a1_1)) (ds := []) #[false, false, false, false, false, false, false, false, false, false, false, false, false] (by kernel_rfl) rfl rfl ⟨(blk_cell BK1459.out 0).trans rfl, (blk_cell BK1459.out 1).trans rfl, (blk_cell BK1459.out 2).trans rfl, (blk_cell BK1460.out 0).trans rfl, (blk_cell BK1460.out 1).trans rfl⟩ (fun hHeld => ?_); refine with_tabW laws_FnExactSpinTour.tab30 laws_FnExactSpinTour.bits30 (fun HT_ HW_ => ?_)
     generalize w95.drew = w96 at HO_10 HO_14 HO_1482002 BK1459 BK1460 BK1481 HB hHeld ⊢
     refine pure_ (i := 4) (N := some 107) (v := ?_) (a' := ?_) #[false, false, false, false, true, false, false, false, false, false, false, false, false] rfl rfl (any_of HT_.out (by kernel_rfl)) (fun _ _ _ h => h) (Or.inl ⟨by rfl, ?_⟩) ?_ ?_
     rotate_left
     ·intro w'
      go_simp
      with_reducible rfl
     rotate_left
     ·simp only [Act.put, List.setIfInBounds_toArray, List.set_cons_zero, List.set_cons_succ, i64_w, i32_w]
      rfl
     refine pure_ (i := 6) (N := some 109) (v := ?_) (a' := ?_) #[false, false, false, false, true, false, true, false, false, false, false, false, false] rfl rfl (any_of HT_.out (by kernel_rfl)) (fun _ _ _ h => h) (Or.inl ⟨by rfl, ?_⟩) ?_ ?_
     rotate_left
     ·intro w'
      go_simp
      with_reducible rfl
     rotate_left
     ·simp only [Act.put, List.setIfInBounds_toArray, List.set_cons_zero, List.set_cons_succ, i64_w, i32_w]
      rfl
     refine take_ (i := 0) (N := some 103) (v := ?_) (a' := ?_) #[true, false, false, false, true, false, true, false, false, false, false, false, false] rfl rfl (take_ofW HT_.out HW_.out (by kernel_rfl)) (fun _ _ _ h => h) (Or.inl ⟨by rfl, ?_⟩) hHeld ?_ ?_
     rotate_left
     ·rintro w' ⟨s0, s1, s2, s3, s4⟩
      go_simp
      with_reducible rfl
     rotate_left
     ·simp only [Act.put, List.setIfInBounds_toArray, List.set_cons_zero, List.set_cons_succ, i64_w, i32_w]
      rfl
     refine take_ (i := 2) (N := some 105) (v := ?_) (a' := ?_) #[true, false, true, false, true, false, true, false, false, false, false, false, false] rfl rfl (take_ofW HT_.out HW_.out (by kernel_rfl)) (fun _ _ _ h => h) (Or.inl ⟨by rfl, ?_⟩) hHeld ?_ ?_
     rotate_left
     ·rintro w' ⟨s0, s1, s2, s3, s4⟩
      go_simp
      with_reducible rfl
     rotate_left
     ·simp only [Act.put, List.setIfInBounds_toArray, List.set_cons_zero, List.set_cons_succ, i64_w, i32_w]
      rfl
     refine one_ (i := 1) (N := some 104) #[true, true, true, false, true, false, true, false, false, false, false, false, false] rfl rfl (one_of HT_.out (by kernel_rfl)) (by decide) (fun K hK => ?_)
     refine goes_ Try.func17 (by kernel_rfl) rfl #[.agg #[.int .i64 a0_0, .int .i64 a0_1, .slice A0_2 l0_2.length c0_2]] (by rfl) rfl rfl zay3 ?_
     with_reducible refine (laws_toBoard.calls kj62 a0_0 a0_1 _ _ l0_2 t1510 t1511 t1512 _ ?side1 ?side2 A89.out).mono ?_
     (case side1 => exact zay13)
     (case side2 => exact HC0_2.out)
     rintro e w97 ⟨v1513, rfl, ho0, hb⟩
     refine ⟨_, rfl, ?_⟩
     have n0_ := Aside0.mk (Kd.R_elder' zay10 (Kd.R_base ho0) hb)
     have n1_ := Aside0.mk (Kd.R_elder' zay9 (Kd.R_base ho0) hb)
     have n2_ := Aside0.mk (Kd.R_elder' zay8 (Kd.R_base ho0) hb)
     have n3_ := Aside0.mk (Kd.R_lower (Kd.R_new' (Kd.R_new' (Kd.R_new' ho0 (Kd.R_lt zay10)) (Kd.R_lt zay9)) (Kd.R_lt zay8)) (below_size zay1))
     have n4_ := Aside0.mk (blk_below (g := gb1459) (o := .cells #[.int .i64 a0_0, .int .i64 a0_1, .slice A0_2 l0_2.length c0_2] 24 (0, 0)) zay2 hb)
     have n5_ := Aside0.mk (blk_below (g := gb1460) (o := .cells #[.int .i64 a1_0, .int .i64 a1_1] 26 (0, 0)) zay4 hb)
     have n6_ := Aside0.mk (blk_below (g := gb1481) (o := .cells #[.int .i64 t1476, .int .i64 t1477, .slice Ao42 t1503.length co42] 30 (0, 0)) zay7 hb)
     have n7_ := Aside0.mk (below_step zay1 hb)
     clear HO_10
     clear HO_14
     clear HO_1482002
     clear BK1459
     clear BK1460
     clear BK1481
     clear HB
     have HO_10 := n0_
     have HO_14 := n1_
     have HO_1482002 := n2_
     have HO1514 := n3_
     have BK1459 := n4_
     have BK1460 := n5_
     have BK1481 := n6_
     have HB := n7_
     clear n0_ n1_ n2_ n3_ n4_ n5_ n6_ n7_
     (try clear hb)
     (try clear hb2)
     (try clear hk)
     (try clear hi)
     (try clear ho0)
     (try clear hna_)
     (try clear hnb_)
     refine hK.out _ _ ⟨(blk_cell BK1459.out 0).trans rfl, (blk_cell BK1459.out 1).trans rfl, (blk_cell BK1459.out 2).trans rfl, (blk_cell BK1460.out 0).trans rfl, (blk_cell BK1460.out 1).trans rfl⟩ (fun hHeld => ?_)
     clear hK K
     refine norm_ (a' := ?_) ?_ ?_
     rotate_left
     ·show Act.put _ (some 104) _ = _
      simp only [Act.put, List.setIfInBounds_toArray, List.set_cons_zero, List.set_cons_succ, i64_w, i32_w]
      rfl
     refine one_ (i := 3) (N := some 106) #[true, true, true, true, true, false, true, false, false, false, false, false, false] rfl rfl (one_of HT_.out (by kernel_rfl)) (by decide) (fun K hK => ?_)
     refine goes_ Try.func18 (by kernel_rfl) rfl #[.agg #[.int .i64 a1_0, .int .i64 a1_1]] (by rfl) rfl rfl zay3 ?_
     with_reducible refine (laws_toLeaper.calls a1_0 a1_1 t1515 t1516 _ A90.out).mono ?_
     rintro e w98 ⟨rfl, hb⟩
     refine ⟨_, rfl, ?_⟩
     have n0_ := Aside0.mk (Kd.R_below zay10 hb)
     have n1_ := Aside0.mk (Kd.R_below zay9 hb)
     have n2_ := Aside0.mk (Kd.R_below zay8 hb)
     have n3_ := Aside0.mk (Kd.R_below zay28 hb)
     have n4_ := Aside0.mk (blk_below (g := gb1459) (o := .cells #[.int .i64 a0_0, .int .i64 a0_1, .slice A0_2 l0_2.length c0_2] 24 (0, 0)) zay2 hb)
     have n5_ := Aside0.mk (blk_below (g := gb1460) (o := .cells #[.int .i64 a1_0, .int .i64 a1_1] 26 (0, 0)) zay4 hb)
     have n6_ := Aside0.mk (blk_below (g := gb1481) (o := .cells #[.int .i64 t1476, .int .i64 t1477, .slice Ao42 t1503.length co42] 30 (0, 0)) zay7 hb)
     have n7_ := Aside0.mk (below_step zay1 hb)
     clear HO_10
     clear HO_14
     clear HO_1482002
     clear HO1514
     clear BK1459
     clear BK1460
     clear BK1481
     clear HB
     have HO_10 := n0_
     have HO_14 := n1_
     have HO_1482002 := n2_
     have HO1514 := n3_
     have BK1459 := n4_
     have BK1460 := n5_
     have BK1481 := n6_
     have HB := n7_
     clear n0_ n1_ n2_ n3_ n4_ n5_ n6_ n7_
     (try clear hb)
     (try clear hb2)
     (try clear hk)
     (try clear hi)
     (try clear hna_)
     (try clear hnb_)
     refine hK.out _ _ ⟨(blk_cell BK1459.out 0).trans rfl, (blk_cell BK1459.out 1).trans rfl, (blk_cell BK1459.out 2).trans rfl, (blk_cell BK1460.out 0).trans rfl, (blk_cell BK1460.out 1).trans rfl⟩ (fun hHeld => ?_)
     clear hK K
     refine norm_ (a' := ?_) ?_ ?_
     rotate_left
     ·show Act.put _ (some 106) _ = _
      simp only [Act.put, List.setIfInBounds_toArray, List.set_cons_zero, List.set_cons_succ, i64_w, i32_w]
      rfl
     refine one_ (i := 5) (N := some 108) #[true, true, true, true, true, true, true, false, false, false, false, false, false] rfl rfl (one_of HT_.out (by kernel_rfl)) (by decide) (fun K hK => ?_)
     refine goes_ Try.func19 (by kernel_rfl) rfl #[.slice A2 l2.length c2] (by rfl) rfl rfl zay3 ?_
     with_reducible refine (laws_toIntS.calls kj62 _ _ l2 t1517 _ ?side1 ?side2 A91.out).mono ?_
     (case side1 => exact zay22)
     (case side2 => exact HC2.out)
     rintro e w99 ⟨v1518, rfl, ho0, hb⟩
     refine ⟨_, rfl, ?_⟩
     have n0_ := Aside0.mk (Kd.R_elder' zay10 (Kd.R_base ho0) hb)
     have n1_ := Aside0.mk (Kd.R_elder' zay9 (Kd.R_base ho0) hb)
     have n2_ := Aside0.mk (Kd.R_elder' zay8 (Kd.R_base ho0) hb)
     have n3_ := Aside0.mk (Kd.R_elder' zay28 (Kd.R_base ho0) hb)
     have n4_ := Aside0.mk (Kd.R_lower (Kd.R_new' (Kd.R_new' (Kd.R_new' (Kd.R_new' ho0 (Kd.R_lt zay10)) (Kd.R_lt zay9)) (Kd.R_lt zay8)) (Kd.R_lt zay28)) (below_size zay1))
     have n5_ := Aside0.mk (blk_below (g := gb1459) (o := .cells #[.int .i64 a0_0, .int .i64 a0_1, .slice A0_2 l0_2.length c0_2] 24 (0, 0)) zay2 hb)
     have n6_ := Aside0.mk (blk_below (g := gb1460) (o := .cells #[.int .i64 a1_0, .int .i64 a1_1] 26 (0, 0)) zay4 hb)
     have n7_ := Aside0.mk (blk_below (g := gb1481) (o := .cells #[.int .i64 t1476, .int .i64 t1477, .slice Ao42 t1503.length co42] 30 (0, 0)) zay7 hb)
     have n8_ := Aside0.mk (below_step zay1 hb)
     clear HO_10
     clear HO_14
     clear HO_1482002
     clear HO1514
     clear BK1459
     clear BK1460
     clear BK1481
     clear HB
     have HO_10 := n0_
     have HO_14 := n1_
     have HO_1482002 := n2_
     have HO1514 := n3_
     have HO1519 := n4_
     have BK1459 := n5_
     have BK1460 := n6_
     have BK1481 := n7_
     have HB := n8_
     clear n0_ n1_ n2_ n3_ n4_ n5_ n6_ n7_ n8_
     (try clear hb)
     (try clear hb2)
     (try clear hk)
     (try clear hi)
     (try clear ho0)
     (try clear hna_)
     (try clear hnb_)
     obtain ⟨Ao100, co100, eo100⟩ := Kd.R_slice HO1514.out
     (first | subst eo100 | (injection eo100 with f1_ f2_ f3_; have f4_ := f1_.symm; have f5_ := f3_.symm; clear f1_ f2_ f3_; subst f4_; subst f5_))
     obtain ⟨Ao101, co101, eo101⟩ := Kd.R_slice HO1519.out
     (first | subst eo101 | (injection eo101 with f1_ f2_ f3_; have f4_ := f1_.symm; have f5_ := f3_.symm; clear f1_ f2_ f3_; subst f4_; subst f5_))
     refine hK.out _ _ ⟨(blk_cell BK1459.out 0).trans rfl, (blk_cell BK1459.out 1).trans rfl, (blk_cell BK1459.out 2).trans rfl, (blk_cell BK1460.out 0).trans rfl, (blk_cell BK1460.out 1).trans rfl⟩ (fun hHeld => ?_)
     clear hK K
     refine norm_ (a' := ?_) ?_ ?_
     rotate_left
     ·show Act.put _ (some 108) _ = _
      simp only [Act.put, List.setIfInBounds_toArray, List.set_cons_zero, List.set_cons_succ, i64_w, i32_w]
      rfl
     refine one_ (i := 7) (N := some 110) #[true, true, true, true, true, true, true, true, false, false, false, false, false] rfl rfl (one_of HT_.out (by kernel_rfl)) (by decide) (fun K hK => ?_)
     refine goes_ Try.func47 (by kernel_rfl) rfl #[.agg #[.int .i64 t1510, .int .i64 t1511, .slice Ao100 t1512.length co100], .agg #[.int .i64 t1515, .int .i64 t1516], .slice Ao101 t1517.length co101, .int .i64 a3] (by rfl) rfl rfl zay3 ?_
     with_reducible refine (impl_SpinTour.calls kj62 t1510 t1511 _ _ t1512 t1515 t1516 _ _ t1517 a3 t1520 t1523 _ ?side1 ?side2 ?side3 ?side4 A92.out).mono ?_
     (case side1 => repeat (first | exact (Kd.R_reads' HO1514.out).2.2 | (with_reducible refine Kd.C_alloc ?_ _) | (with_reducible refine Kd.C_drewN ?_ _) | (with_reducible refine Kd.C_drew ?_)))
     (case side2 => exact (Kd.R_reads' HO1514.out).2.1)
     (case side3 => repeat (first | exact (Kd.R_reads' HO1519.out).2.2 | (with_reducible refine Kd.C_alloc ?_ _) | (with_reducible refine Kd.C_drewN ?_ _) | (with_reducible refine Kd.C_drew ?_)))
     (case side4 => exact (Kd.R_reads' HO1519.out).2.1)
     rintro e w102 ⟨v1521, rfl, ho0, hb⟩
     refine ⟨_, rfl, ?_⟩
     have n0_ := Aside0.mk (Kd.R_elder' zay10 (Kd.R_base ho0) hb)
     have n1_ := Aside0.mk (Kd.R_elder' zay9 (Kd.R_base ho0) hb)
     have n2_ := Aside0.mk (Kd.R_elder' zay8 (Kd.R_base ho0) hb)
     have n3_ := Aside0.mk (Kd.R_elder' zay28 (Kd.R_base ho0) hb)
     have n4_ := Aside0.mk (Kd.R_elder' (by first | exact HO1519.out | ((with_reducible repeat (first | apply Kd.R_alloc | apply Kd.R_drewN | apply Kd.R_drew)); exact HO1519.out)) (Kd.R_base ho0) hb)
     have n5_ := Aside0.mk (Kd.R_lower (Kd.R_new' (Kd.R_new' (Kd.R_new' (Kd.R_new' (Kd.R_new' ho0 (Kd.R_lt zay10)) (Kd.R_lt zay9)) (Kd.R_lt zay8)) (Kd.R_lt zay28)) (Kd.R_lt (by first | exact HO1519.out | ((with_reducible repeat (first | apply Kd.R_alloc | apply Kd.R_drewN | apply Kd.R_drew)); exact HO1519.out)))) (below_size zay1))
     have n6_ := Aside0.mk (blk_below (g := gb1459) (o := .cells #[.int .i64 a0_0, .int .i64 a0_1, .slice A0_2 l0_2.length c0_2] 24 (0, 0)) zay2 hb)
     have n7_ := Aside0.mk (blk_below (g := gb1460) (o := .cells #[.int .i64 a1_0, .int .i64 a1_1] 26 (0, 0)) zay4 hb)
     have n8_ := Aside0.mk (blk_below (g := gb1481) (o := .cells #[.int .i64 t1476, .int .i64 t1477, .slice Ao42 t1503.length co42] 30 (0, 0)) zay7 hb)
     have n9_ := Aside0.mk (below_step zay1 hb)
     clear HO_10
     clear HO_14
     clear HO_1482002
     clear HO1514
     clear HO1519
     clear BK1459
     clear BK1460
     clear BK1481
     clear HB
     have HO_10 := n0_
     have HO_14 := n1_
     have HO_1482002 := n2_
     have HO1514 := n3_
     have HO1519 := n4_
     have HO1522 := n5_
     have BK1459 := n6_
     have BK1460 := n7_
     have BK1481 := n8_
     have HB := n9_
     clear n0_ n1_ n2_ n3_ n4_ n5_ n6_ n7_ n8_ n9_
     (try clear hb)
     (try clear hb2)
     (try clear hk)
     (try clear hi)
     (try clear ho0)
     (try clear hna_)
     (try clear hnb_)
     refine hK.out _ _ ⟨(blk_cell BK1459.out 0).trans rfl, (blk_cell BK1459.out 1).trans rfl, (blk_cell BK1459.out 2).trans rfl, (blk_cell BK1460.out 0).trans rfl, (blk_cell BK1460.out 1).trans rfl⟩ (fun hHeld => ?_)
     clear hK K
     refine norm_ (a' := ?_) ?_ ?_
     rotate_left
     ·show Act.put _ (some 110) _ = _
      simp only [Act.put, List.setIfInBounds_toArray, List.set_cons_zero, List.set_cons_succ, i64_w, i32_w]
      rfl
     refine pure_ (i := 8) (N := some 102) (v := ?_) (a' := ?_) #[true, true, true, true, true, true, true, true, true, false, false, false, false] rfl rfl (any_of HT_.out (by kernel_rfl)) (fun _ _ _ h => h) (Or.inl ⟨by rfl, ?_⟩) ?_ ?_
     rotate_left
     ·intro w'
      go_simp
      with_reducible rfl
     rotate_left
     ·simp only [Act.put, List.setIfInBounds_toArray, List.set_cons_zero, List.set_cons_succ, i64_w, i32_w]
      rfl
     refine pure_ (i := 9) (N := some 111) (v := ?_) (a' := ?_) #[true, true, true, true, true, true, true, true, true, true, false, false, false] rfl rfl (any_of HT_.out (by kernel_rfl)) (fun _ _ _ h => h) (Or.inl ⟨by rfl, ?_⟩) ?_ ?_
     rotate_left
     ·intro w'
      go_simp
      with_reducible rfl
     rotate_left
     ·simp only [Act.put, List.setIfInBounds_toArray, List.set_cons_zero, List.set_cons_succ, i64_w, i32_w]
      rfl
     refine pure_ (i := 10) (N := some 112) (v := ?_) (a' := ?_) #[true, true, true, true, true, true, true, true, true, true, true, false, false] rfl rfl (any_of HT_.out (by kernel_rfl)) (fun _ _ _ h => h) (Or.inl ⟨by rfl, ?_⟩) ?_ ?_
     rotate_left
     ·intro w'
      go_simp
      with_reducible rfl
     rotate_left
     ·simp only [Act.put, List.setIfInBounds_toArray, List.set_cons_zero, List.set_cons_succ, i64_w, i32_w]
      rfl
     refine pure_ (i := 11) (N := some 19) (v := ?_) (a' := ?_) #[true, true, true, true, true, true, true, true, true, true, true, true, false] rfl rfl (any_of HT_.out (by kernel_rfl)) (fun _ _ _ h => h) (Or.inl ⟨by rfl, ?_⟩) ?_ ?_
     rotate_left
     ·intro w'
      go_simp
      with_reducible rfl
     rotate_left
     ·simp only [Act.put, List.setIfInBounds_toArray, List.set_cons_zero, List.set_cons_succ, i64_w, i32_w]
      rfl
     refine pure_ (i := 12) (N := some 20) (v := ?_) (a' := ?_) #[true, true, true, true, true, true, true, true, true, true, true, true, true] rfl rfl (any_of HT_.out (by kernel_rfl)) (fun _ _ _ h => h) (Or.inl ⟨by rfl, ?_⟩) ?_ ?_
     rotate_left
     ·intro w'
      go_simp
      with_reducible rfl
     rotate_left
     ·simp only [Act.put, List.setIfInBounds_toArray, List.set_cons_zero, List.set_cons_succ, i64_w, i32_w]
      rfl
     refine done_ (done_of HT_.out (by kernel_rfl)) ?_
     go_upto_region 31 with (fail)
     go_cut [121] (fun v121 wc => ∃ (kq : Nat) (x121_92 : Bool), v121 = .bool x121_92 ∧ Aside0 (laws_FnExactSpinTour.j2 kq t1508 t1507 x121_92 = some r) ∧ Aside0 (kq ≤ kj62) ∧ Aside0 (Kd.R (Kd.int .i64) 3 wc w.heap.size (fun k_ => some k_ ≠ ((.slice Ao42 t1503.length co42) : Value).ownBlock) (.slice Ao94 t1487.length co94) t1508) ∧ Aside0 (Kd.R (Kd.int .i64) 3 wc w.heap.size (fun k_ => some k_ ≠ ((.slice Ao94 t1487.length co94) : Value).ownBlock) (.slice Ao42 t1503.length co42) t1503) ∧ Aside0 (wc.heap[gb1459]? = some (.cells #[.int .i64 a0_0, .int .i64 a0_1, (.slice A0_2 l0_2.length c0_2)] 24 (0, 0))) ∧ Aside0 (wc.heap[gb1460]? = some (.cells #[.int .i64 a1_0, .int .i64 a1_1] 26 (0, 0))) ∧ Aside0 (wc.heap[gb1481]? = some (.cells #[.int .i64 t1476, .int .i64 t1477, (.slice Ao42 t1503.length co42)] 30 (0, 0))) ∧ Aside0 (Below w.heap.size w wc))
     case first =>
      have H := HC93.out
      clear HC93
      replace H := Option.bind_eq_some_iff.mp H
      obtain ⟨t1524, A1030, H⟩ := H
      replace H : (if t1524 = true then (laws_FnExactSpinTour.j2 kj62 t1508 t1507 (t1523 != t1475)) else (laws_FnExactSpinTour.j2 kj62 t1508 t1507 true)) = some r := H
      have A103 := Aside0.mk A1030
      clear A1030
      by_cases c104 : t1524 = true
      ·subst c104
       have H1 : (laws_FnExactSpinTour.j2 kj62 t1508 t1507 (t1523 != t1475)) = some r := by rw [if_pos rfl] at H; exact H
       clear H
       have H := H1
       clear H1
       have H' := Aside0.mk H
       clear H
       obtain ⟨Ao105, co105, eo105⟩ := Kd.R_slice HO1522.out
       subst eo105
       obtain ⟨Ao106, co106, eo106⟩ := Kd.R_slice HO_10.out
       subst eo106
       go_wp2_with (first | ((with_reducible refine gate_callee (f := 21) rfl ?_); refine goesL_ (some 115) rfl rfl Try.func21 (by kernel_rfl) rfl #[.slice Ao105 t1520.length co105, .slice Ao106 t1472.length co106] rfl zay3 ?_; (with_reducible refine (laws_eqIntS.calls kj62 _ _ t1520 _ _ t1472 true _ ?side1 ?side2 ?side3 ?side4 A103.out).mono ?_); (case side1 => exact zay44); (case side2 => exact (Kd.R_reads' HO1522.out).2.1); (case side3 => exact zay21); (case side4 => exact (Kd.R_reads' HO_10.out).2.1); rintro e w' ⟨rfl, ⟨nd, rfl⟩⟩; refine ⟨_, rfl, ?_⟩))
       go_meet
       case rel => exact ⟨_, ((t1523 != t1475)), zay35, H', ⟨by have := HJ22.out; have := HJ62.out; first | omega | exact Nat.le_refl _⟩, ⟨zay39⟩, ⟨zay38⟩, ⟨zay51⟩, ⟨zay50⟩, ⟨zay49⟩, ⟨zay1⟩⟩
      replace c104 := Bool.eq_false_iff.mpr c104
      subst c104
      have H1 : (laws_FnExactSpinTour.j2 kj62 t1508 t1507 true) = some r := by rw [if_neg (show ¬ (false = true) by decide)] at H; exact H
      clear H
      have H := H1
      clear H1
      have H' := Aside0.mk H
      clear H
      obtain ⟨Ao107, co107, eo107⟩ := Kd.R_slice HO1522.out
      subst eo107
      obtain ⟨Ao108, co108, eo108⟩ := Kd.R_slice HO_10.out
      subst eo108
      go_wp2_with (first | ((with_reducible refine gate_callee (f := 21) rfl ?_); refine goesL_ (some 115) rfl rfl Try.func21 (by kernel_rfl) rfl #[.slice Ao107 t1520.length co107, .slice Ao108 t1472.length co108] rfl zay3 ?_; (with_reducible refine (laws_eqIntS.calls kj62 _ _ t1520 _ _ t1472 false _ ?side1 ?side2 ?side3 ?side4 A103.out).mono ?_); (case side1 => exact zay44); (case side2 => exact (Kd.R_reads' HO1522.out).2.1); (case side3 => exact zay21); (case side4 => exact (Kd.R_reads' HO_10.out).2.1); rintro e w' ⟨rfl, ⟨nd, rfl⟩⟩; refine ⟨_, rfl, ?_⟩))
      go_meet
      case rel => exact ⟨_, (true), zay35, H', ⟨by have := HJ22.out; have := HJ62.out; first | omega | exact Nat.le_refl _⟩, ⟨zay39⟩, ⟨zay38⟩, ⟨zay51⟩, ⟨zay50⟩, ⟨zay49⟩, ⟨zay1⟩⟩
     case rest =>
      clear HC93
      try clear c1; try clear c2; try clear p2; try clear c3; try clear c4; try clear c5; try clear c5b0; try clear c5b1; try clear c6; try clear c7; try clear c8; try clear c9; try clear c9b0; try clear c10; try clear c12; try clear c14; try clear c15; try clear c17; try clear c18; try clear c19; try clear c21; try clear c22; try clear c23; try clear c24; try clear c25; try clear c26; try clear c39; try clear c40; try clear c46; try clear c47; try clear c49; try clear c54; try clear c57; try clear c60; try clear c70; try clear c71; try clear c75; try clear c75b0; try clear c77; try clear c82; try clear c85
      try clear c85b0; try clear c88; try clear c88b0; try clear c88b1; try clear c104; try clear hcz13_0; try clear hcz13_1; try clear hcz13_2; try clear hcz27_0; try clear hcz27_1; try clear hcz27_2; try clear hcz36_0; try clear hcz36_1; try clear hcz36_2; try clear hcz41_0; try clear hcz41_1; try clear hcz41_2; try clear hcz72_0; try clear hcz72_1; try clear hcz72_2; try clear hfz13_0; try clear hfz13_1; try clear hfz13_2; try clear hfz27_0; try clear hfz27_1; try clear hfz27_2; try clear hfz36_0; try clear hfz36_1; try clear hfz36_2; try clear hfz41_0; try clear hfz41_1; try clear hfz41_2; try clear hfz72_0
      try clear hfz72_1; try clear hfz72_2; try clear p2
      obtain ⟨kq, x121_92, rfl, HA, HJ92, HO_14, HO_1482002, BK1459, BK1460, BK1481, HB⟩ := hcut
      have hl14_92 := (Kd.R_reads' HO_14.out).1
      rw [hl14_92] at HO_14
      (try simp only [hl14_92])
      (try simp only [hl14_92] at BK1459)
      (try simp only [hl14_92] at BK1460)
      (try simp only [hl14_92] at BK1481)
      (try simp only [hl14_92] at HO_1482002)
      cases kq with
      | zero => exact absurd HA.out (by simp [laws_FnExactSpinTour.j2])
      | succ kj92 =>
       have H := HA.out
       clear HA
       simp only [laws_FnExactSpinTour.j2] at H
       by_cases c109 : x121_92 = true
       ·subst c109
        have H1 : (some false) = some r := by rw [if_pos rfl] at H; exact H
        clear H
        have H := H1
        clear H1
        obtain rfl := Option.some.inj H
        go_wp2
        go_ret
        exact ⟨zay17, zay1⟩
       replace c109 := Bool.eq_false_iff.mpr c109
       subst c109
       have H1 : ((laws_heldIntS.f kj92 t1508 1).bind fun t1525 => (if t1525 < 0 then (some false) else (if t1525 = t1507 then (some true) else (some false)))) = some r := by rw [if_neg (show ¬ (false = true) by decide)] at H; exact H
       clear H
       have H := H1
       clear H1
       replace H := Option.bind_eq_some_iff.mp H
       obtain ⟨t1525, A1100, H⟩ := H
       replace H : (if t1525 < 0 then (some false) else (if t1525 = t1507 then (some true) else (some false))) = some r := H
       have A110 := Aside0.mk A1100
       clear A1100
       by_cases c111 : t1525 < 0
       ·rw [if_pos c111] at H
        have c111b0 : decide (t1525 < 0) = true := decide_eq_true c111
        clear c111
        obtain rfl := Option.some.inj H
        go_wp2_with (first | ((with_reducible refine gate_callee (f := 25) rfl ?_); refine goesL_ (some 124) rfl rfl Try.func25 (by kernel_rfl) rfl #[.slice Ao94 t1508.length co94, .int .i64 1] rfl zay3 ?_; (with_reducible refine (laws_heldIntS.calls kj92 _ _ t1508 1 t1525 _ ?side1 ?side2 A110.out).mono ?_); (case side1 => exact zay14); (case side2 => exact (Kd.R_reads' HO_14.out).2.1); rintro e w' ⟨rfl, ⟨nd, rfl⟩⟩; refine ⟨_, rfl, ?_⟩))
        go_ret
        exact ⟨zay17, zay1⟩
       rw [if_neg c111] at H
       have c111b0 : decide (t1525 < 0) = false := decide_eq_false c111
       clear c111
       by_cases c112 : t1525 = t1507
       rotate_left
       ·rw [if_neg c112] at H
        have c112b0 : (t1525 == t1507) = false := beq_eq_false_iff_ne.mpr c112
        have c112b1 : (t1525 != t1507) = true := bne_iff_ne.mpr c112
        obtain rfl := Option.some.inj H
        go_wp2_with (first | ((with_reducible refine gate_callee (f := 25) rfl ?_); refine goesL_ (some 124) rfl rfl Try.func25 (by kernel_rfl) rfl #[.slice Ao94 t1508.length co94, .int .i64 1] rfl zay3 ?_; (with_reducible refine (laws_heldIntS.calls kj92 _ _ t1508 1 t1525 _ ?side1 ?side2 A110.out).mono ?_); (case side1 => exact zay14); (case side2 => exact (Kd.R_reads' HO_14.out).2.1); rintro e w' ⟨rfl, ⟨nd, rfl⟩⟩; refine ⟨_, rfl, ?_⟩))
        go_ret
        exact ⟨zay17, zay1⟩
       rw [if_pos c112] at H
       have c112b0 : (t1525 == t1507) = true := beq_iff_eq.mpr c112
       have c112b1 : (t1525 != t1507) = false := bne_eq_false_iff_eq.mpr c112
       clear c112
       obtain rfl := Option.some.inj H
       go_wp2_with (first | ((with_reducible refine gate_callee (f := 25) rfl ?_); refine goesL_ (some 124) rfl rfl Try.func25 (by kernel_rfl) rfl #[.slice Ao94 t1508.length co94, .int .i64 1] rfl zay3 ?_; (with_reducible refine (laws_heldIntS.calls kj92 _ _ t1508 1 t1525 _ ?side1 ?side2 A110.out).mono ?_); (case side1 => exact zay14); (case side2 => exact (Kd.R_reads' HO_14.out).2.1); rintro e w' ⟨rfl, ⟨nd, rfl⟩⟩; refine ⟨_, rfl, ?_⟩))
       go_ret
       exact ⟨zay17, zay1⟩

end Go.Proofs.Ytjeongckkfkehaa.Q

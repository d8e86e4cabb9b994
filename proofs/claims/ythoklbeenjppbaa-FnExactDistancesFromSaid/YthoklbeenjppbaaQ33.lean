/- Written by a program of this session: functions of the translation as plain Lean functions, each with a proof that the call does what the plain function says; the conditions stand in each theorem. -/
import Derived.Test.YthoklbeenjppbaaQ0
import Derived.Test.YthoklbeenjppbaaQ1
import Derived.Test.YthoklbeenjppbaaQ2
import Derived.Test.YthoklbeenjppbaaQ5
import Derived.Test.YthoklbeenjppbaaQ31
import Derived.Test.YthoklbeenjppbaaQ32
namespace Go.Proofs.Ythoklbeenjppbaa.Q
open Go.RowKit Go.Proofs.YthoklbeenjppbaaW.PrintWords Go.Proofs.YthoklbeenjppbaaW.PrintLast Go.Proofs.YthoklbeenjppbaaW.PrintMore
attribute [local go_sem] max2_int min2_int max_two min_two max_three min_three max_four min_four   -- for this text's walks alone
set_option linter.unusedVariables false
set_option linter.unusedSimpArgs false

theorem zah1 {p : Prop} (h : p := by repeat (first | (with_reducible first | exact HB.out | apply below_alloc | apply pw_below_drewN | apply below_drew1 | refine below_set ?_ GE759.out | refine below_set ?_ GE760.out | refine below_set ?_ GE778.out) | exact HB.out)) : p := h
theorem zah2 {p : Prop} (h : p := by (with_reducible repeat (first | refine blk_drewN ?_ _ | refine blk_drew ?_ | refine blk_alloc ?_ _)); exact BK759.out) : p := h
theorem zah3 {p : Prop} (h : p := by (try simp only [List.map_toArray, List.map_cons, List.map_nil]); first | done | rfl | (simp only [List.length_drop, List.length_take]; rfl)) : p := h
theorem zah4 {p : Prop} (h : p := by (with_reducible repeat (first | refine blk_drewN ?_ _ | refine blk_drew ?_ | refine blk_alloc ?_ _)); exact BK760.out) : p := h
theorem zah6 {p : Prop} (h : p := by repeat (first | (with_reducible first | exact HB.out | apply below_alloc | apply pw_below_drewN | apply below_drew1 | refine below_set ?_ GE759.out | refine below_set ?_ GE760.out) | exact HB.out)) : p := h
theorem zah7 {p : Prop} (h : p := by (with_reducible repeat (first | refine blk_drewN ?_ _ | refine blk_drew ?_ | refine blk_alloc ?_ _)); exact BK778.out) : p := h
theorem zah8 {p : Prop} (h : p := by (with_reducible repeat (first | apply Kd.R_alloc | apply Kd.R_drewN | apply Kd.R_drew)); exact HO_779002.out) : p := h
theorem zah9 {p : Prop} (h : p := by repeat (first | exact (Kd.R_reads' HO_11.out).2.2 | (with_reducible refine Kd.C_alloc ?_ _) | (with_reducible refine Kd.C_drewN ?_ _) | (with_reducible refine Kd.C_drew ?_))) : p := h
theorem zah10 {p : Prop} (h : p := by (with_reducible repeat (first | apply Kd.R_alloc | apply Kd.R_drewN | apply Kd.R_drew)); exact HO_11.out) : p := h
theorem zah11 {p : Prop} (h : p := by (with_reducible repeat (first | apply Kd.R_alloc | apply Kd.R_drewN | apply Kd.R_drew)); exact HO_8.out) : p := h
theorem zah12 {p : Prop} (h : p := by repeat (first | exact (Kd.C_below HR0_2.out HB.out) | (with_reducible refine Kd.C_alloc ?_ _) | (with_reducible refine Kd.C_drewN ?_ _) | (with_reducible refine Kd.C_drew ?_))) : p := h
theorem zah13 {p : Prop} (h : p := by first | rfl | (simp [errW_none, errW_some] <;> rfl) | (simp [*, errW_none, errW_some] <;> rfl)) : p := h
theorem zah14 {p : Prop} (h : p := by (with_reducible repeat (first | apply Kd.R_alloc | apply Kd.R_drewN | apply Kd.R_drew)); exact HO766.out) : p := h
theorem zah15 {p : Prop} (h : p := by repeat (first | (with_reducible first | exact HB.out | apply below_alloc | apply pw_below_drewN | apply below_drew1 | refine below_set ?_ GE759.out) | exact HB.out)) : p := h
theorem zah16 {p : Prop} (h : p := by repeat (first | (with_reducible first | exact HB.out | apply below_alloc | apply pw_below_drewN | apply below_drew1) | exact HB.out)) : p := h
theorem zah17 {p : Prop} (h : p := by (with_reducible repeat (first | apply Kd.R_alloc | apply Kd.R_drewN | apply Kd.R_drew)); exact HO771.out) : p := h
theorem zah18 {p : Prop} (h : p := by repeat (first | exact (Kd.R_reads' HO_8.out).2.2 | (with_reducible refine Kd.C_alloc ?_ _) | (with_reducible refine Kd.C_drewN ?_ _) | (with_reducible refine Kd.C_drew ?_))) : p := h
theorem zah19 {p : Prop} (h : p := by (try simp only [List.map_toArray, List.map_cons, List.map_nil]); first | done | (rw [show t796.length = t781.length from (Kd.R_reads' HO_11.out).1.symm] <;> rfl) | rfl | (simp only [List.length_drop, List.length_take]; rfl)) : p := h
theorem zah20 {p : Prop} (h : p := by (with_reducible repeat (first | apply Kd.R_alloc | apply Kd.R_drewN | apply Kd.R_drew)); exact HO777.out) : p := h
theorem zah21 {p : Prop} (h : p := by (with_reducible repeat (first | apply Kd.R_alloc | apply Kd.R_drewN | apply Kd.R_drew)); exact Kd.R_mono HO_779002.out (fun _ hk => ⟨hk.1.1, hk.1.2⟩)) : p := h
theorem zah22 {p : Prop} (h : p := by (with_reducible repeat (first | apply Kd.R_alloc | apply Kd.R_drewN | apply Kd.R_drew)); exact Kd.R_mono HO_11.out (fun _ hk => ⟨hk.1, hk.2.1⟩)) : p := h
theorem zah23 {p : Prop} (h : p := by (with_reducible repeat (first | apply Kd.R_alloc | apply Kd.R_drewN | apply Kd.R_drew)); exact Kd.R_mono HO_8.out (fun _ hk => ⟨hk.1, hk.2.1⟩)) : p := h
theorem zah24 {p : Prop} (h : p := by first | rfl | (simp; done) | (simp [*]; done)) : p := h
theorem zah25 {p : Prop} (h : p := by (with_reducible repeat (first | apply Kd.R_alloc | apply Kd.R_drewN | apply Kd.R_drew)); exact HO802.out) : p := h
theorem zah26 {p : Prop} (h : p := by rw [show t796.length = t781.length from (Kd.R_reads' HO_11.out).1.symm]; exact (Kd.R_reads' HO_11.out).2.1) : p := h
theorem zah27 {p : Prop} (h : p := by (try simp only [hl779002_49]); (with_reducible repeat (first | apply Kd.R_alloc | apply Kd.R_drewN | apply Kd.R_drew)); exact Kd.R_mono HO_779002.out (fun _ hk => hk.1.1.2)) : p := h
theorem zah28 {p : Prop} (h : p := by (try simp only [hl779002_49]); (with_reducible repeat (first | apply Kd.R_alloc | apply Kd.R_drewN | apply Kd.R_drew)); exact Kd.R_mono HO_11.out (fun _ hk => hk.1.1.2)) : p := h
theorem zah29 {p : Prop} (h : p := by repeat (first | exact (Kd.R_reads' HO_779002.out).2.2 | (with_reducible refine Kd.C_alloc ?_ _) | (with_reducible refine Kd.C_drewN ?_ _) | (with_reducible refine Kd.C_drew ?_))) : p := h
theorem zah30 {p : Prop} (h : p := by repeat (first | exact (Kd.R_reads' HO807.out).2.2 | (with_reducible refine Kd.C_alloc ?_ _) | (with_reducible refine Kd.C_drewN ?_ _) | (with_reducible refine Kd.C_drew ?_))) : p := h
theorem zah31 {p : Prop} (h : p := by repeat (first | exact (Kd.R_reads' HO790.out).2.2 | (with_reducible refine Kd.C_alloc ?_ _) | (with_reducible refine Kd.C_drewN ?_ _) | (with_reducible refine Kd.C_drew ?_))) : p := h
theorem zah32 {p : Prop} (h : p := by repeat (first | exact (Kd.R_reads' HO783.out).2.2 | (with_reducible refine Kd.C_alloc ?_ _) | (with_reducible refine Kd.C_drewN ?_ _) | (with_reducible refine Kd.C_drew ?_))) : p := h
theorem zah33 {p : Prop} (h : p := by repeat (first | exact (Kd.R_reads' HO771.out).2.2 | (with_reducible refine Kd.C_alloc ?_ _) | (with_reducible refine Kd.C_drewN ?_ _) | (with_reducible refine Kd.C_drew ?_))) : p := h
theorem zah34 {p : Prop} (h : p := by (try simp only [hl779002_49]); (with_reducible repeat (first | refine blk_drewN ?_ _ | refine blk_drew ?_ | refine blk_alloc ?_ _)); exact BK778.out) : p := h
theorem zah35 {p : Prop} (h : p := by (try simp only [hl779002_49]); (with_reducible repeat (first | refine blk_drewN ?_ _ | refine blk_drew ?_ | refine blk_alloc ?_ _)); exact BK760.out) : p := h
theorem zah36 {p : Prop} (h : p := by (try simp only [hl779002_49]); (with_reducible repeat (first | refine blk_drewN ?_ _ | refine blk_drew ?_ | refine blk_alloc ?_ _)); exact BK759.out) : p := h
theorem zah37 {p : Prop} (h : p := by (with_reducible repeat (first | apply Kd.R_alloc | apply Kd.R_drewN | apply Kd.R_drew)); exact Kd.R_mono HO783.out (fun _ hk => ⟨hk.1.2, hk.2⟩)) : p := h
theorem zah38 {p : Prop} (h : p := by (with_reducible repeat (first | apply Kd.R_alloc | apply Kd.R_drewN | apply Kd.R_drew)); exact Kd.R_mono HO777.out (fun _ hk => ⟨hk.1.2, hk.2⟩)) : p := h
theorem zah39 {p : Prop} (h : p := by (with_reducible repeat (first | apply Kd.R_alloc | apply Kd.R_drewN | apply Kd.R_drew)); exact Kd.R_mono HO771.out (fun _ hk => ⟨hk.2, hk.1.2⟩)) : p := h
theorem zah40 {p : Prop} (h : p := by rw [hg]; exact Nat.ne_of_lt (blk_lt (g := gb759) (o := .cells #[.int .i64 a0_0, .int .i64 a0_1, .slice A0_2 l0_2.length c0_2] 24 (0, 0)) zah2)) : p := h
theorem zah41 {p : Prop} (h : p := by rw [hg]; exact Nat.ne_of_gt (blk_lt (g := gb759) (o := .cells #[.int .i64 a0_0, .int .i64 a0_1, .slice A0_2 l0_2.length c0_2] 24 (0, 0)) zah2)) : p := h
/-! ### laws_FnExactDistancesFrom: function 8 -/
mutual
def laws_FnExactDistancesFrom.j0 : Nat → Int → List Int → Bool → List Int → Bool → Bool → Int → Int → List Int → Int → Int → Int → Int → List Int → Option (Bool)
 | 0, _, _, _, _, _, _, _, _, _, _, _, _, _, _ => none
 | k + 1, x2, x8, x9, x11, x12, x50, x760000, x760001, x760002, x761000, x761001, x779000, x779001, x779002 => if x50 = true then (some false) else ((laws_toBoard.f k x760000 x760001 x760002).bind fun bt786 => ((laws_eqBoard.f k x779000 x779001 x779002 bt786.1 bt786.2.1 bt786.2.2).bind fun t791 => (if t791 = true then ((laws_markBoard.f k x779000 x779001 x779002 1).bind fun bt792 => (if bt792.1 < 0 then (laws_FnExactDistancesFrom.j1 k x2 x8 x9 x11 true x760000 x760001 x760002 x761000 x761001) else ((laws_eqIntS.f k x11 x8).bind fun t794 => (if t794 = true then (laws_FnExactDistancesFrom.j1 k x2 x8 x9 x11 (x12 != x9) x760000 x760001 x760002 x761000 x761001) else (laws_FnExactDistancesFrom.j1 k x2 x8 x9 x11 true x760000 x760001 x760002 x761000 x761001))))) else (some false))))
def laws_FnExactDistancesFrom.j1 : Nat → Int → List Int → Bool → List Int → Bool → Int → Int → List Int → Int → Int → Option (Bool)
 | 0, _, _, _, _, _, _, _, _, _, _ => none
 | k + 1, x2, x8, x9, x11, x71, x760000, x760001, x760002, x761000, x761001 => if x71 = true then (some false) else ((laws_markIntS.f k x11 1).bind fun bt795 => ((laws_heldIntS.f k bt795.2 1).bind fun t797 => (if t797 < 0 then (some false) else (if t797 = bt795.1 then ((laws_toBoard.f k x760000 x760001 x760002).bind fun bt798 => ((laws_toLeaper.f x761000 x761001).bind fun bt803 => ((impl_DistancesFrom.f k bt798.1 bt798.2.1 bt798.2.2 bt803.1 bt803.2 x2).bind fun bt805 => ((laws_eqIntS.f k bt805.1 x8).bind fun t809 => (if t809 = true then (laws_FnExactDistancesFrom.j2 k bt795.2 bt795.1 (bt805.2 != x9)) else (laws_FnExactDistancesFrom.j2 k bt795.2 bt795.1 true)))))) else (some false)))))
def laws_FnExactDistancesFrom.j2 : Nat → List Int → Int → Bool → Option (Bool)
 | 0, _, _, _ => none
 | k + 1, x11, x14, x100 => if x100 = true then (some false) else ((laws_heldIntS.f k x11 1).bind fun t810 => (if t810 < 0 then (some false) else (if t810 = x14 then (some true) else (some false))))
end
def laws_FnExactDistancesFrom.f (k : Nat) (a0_0 : Int) (a0_1 : Int) (l0_2 : List Int) (a1_0 : Int) (a1_1 : Int) (a2 : Int) : Option (Bool) := (laws_szBoard.f a0_0 a0_1 l0_2 1048576).bind fun t761 => (if t761 < 0 then (some true) else ((laws_toBoard.f k a0_0 a0_1 l0_2).bind fun bt762 => ((laws_toLeaper.f a1_0 a1_1).bind fun bt767 => ((spec_DistancesFrom.f k bt762.1 bt762.2.1 bt762.2.2 bt767.1 bt767.2 a2).bind fun bt769 => ((laws_toBoard.f k a0_0 a0_1 l0_2).bind fun bt773 => ((laws_toLeaper.f a1_0 a1_1).bind fun bt779 => ((impl_DistancesFrom.f k bt773.1 bt773.2.1 bt773.2.2 bt779.1 bt779.2 a2).bind fun bt781 => ((laws_eqIntS.f k bt781.1 bt769.1).bind fun t785 => (if t785 = true then (laws_FnExactDistancesFrom.j0 k a2 bt769.1 bt769.2 bt781.1 bt781.2 (bt781.2 != bt769.2) a0_0 a0_1 l0_2 a1_0 a1_1 bt773.1 bt773.2.1 bt773.2.2) else (laws_FnExactDistancesFrom.j0 k a2 bt769.1 bt769.2 bt781.1 bt781.2 true a0_0 a0_1 l0_2 a1_0 a1_1 bt773.1 bt773.2.1 bt773.2.2))))))))))
def laws_FnExactDistancesFrom.T5 : Bool × List (List Nat × List Nat) := (true, [([], []), ([0], [0]), ([], []), ([2, 1], [2]), ([], []), ([1, 3, 4, 3], [1, 3, 4]), ([5], [5]), ([6], [6]), ([6], [6]), ([7, 5, 0, 1, 2, 3, 4, 5, 6, 7], [7]), ([8, 9, 0, 1, 2, 3, 4, 5, 6, 7, 8, 9], [8])])
def laws_FnExactDistancesFrom.B5 : List Nat := [0, 1, 0, 7, 0, 31, 63, 127, 127, 255, 1023]
theorem laws_FnExactDistancesFrom.tab5 : rtab .any (opsOf Try.f8 5) = laws_FnExactDistancesFrom.T5 := by kernel_rfl
theorem laws_FnExactDistancesFrom.bits5 : waitsOk laws_FnExactDistancesFrom.T5.2 laws_FnExactDistancesFrom.B5 = true := by kernel_rfl
def laws_FnExactDistancesFrom.T7 : Bool × List (List Nat × List Nat) := (true, [([], []), ([], []), ([1], [1]), ([], []), ([0, 2, 3, 2], [0, 2, 3]), ([4], [4]), ([5], [5]), ([5], [5]), ([6, 4, 0, 1, 2, 3, 4, 5, 6], [6]), ([7, 8, 0, 1, 2, 3, 4, 5, 6, 7, 8], [7])])
def laws_FnExactDistancesFrom.B7 : List Nat := [0, 0, 2, 0, 15, 31, 63, 63, 127, 511]
theorem laws_FnExactDistancesFrom.tab7 : rtab .any (opsOf Try.f8 7) = laws_FnExactDistancesFrom.T7 := by kernel_rfl
theorem laws_FnExactDistancesFrom.bits7 : waitsOk laws_FnExactDistancesFrom.T7.2 laws_FnExactDistancesFrom.B7 = true := by kernel_rfl
def laws_FnExactDistancesFrom.T24 : Bool × List (List Nat × List Nat) := (true, [([], []), ([0], [0]), ([], []), ([2, 1], [2]), ([], []), ([1, 3, 4, 3], [1, 3, 4]), ([5], [5]), ([6], [6]), ([6], [6]), ([7, 5, 0, 1, 2, 3, 4, 5, 6, 7], [7]), ([8, 9, 0, 1, 2, 3, 4, 5, 6, 7, 8, 9], [8])])
def laws_FnExactDistancesFrom.B24 : List Nat := [0, 1, 0, 7, 0, 31, 63, 127, 127, 255, 1023]
theorem laws_FnExactDistancesFrom.tab24 : rtab .any (opsOf Try.f8 24) = laws_FnExactDistancesFrom.T24 := by kernel_rfl
theorem laws_FnExactDistancesFrom.bits24 : waitsOk laws_FnExactDistancesFrom.T24.2 laws_FnExactDistancesFrom.B24 = true := by kernel_rfl
set_option maxHeartbeats 8000000 in
set_option maxRecDepth 100000 in
theorem laws_FnExactDistancesFrom.calls (k : Nat) (a0_0 : Int) (a0_1 : Int) (A0_2 : Option Addr) (c0_2 : Nat) (l0_2 : List Int) (a1_0 : Int) (a1_1 : Int) (a2 : Int) (r : Bool) (w : World) (hr0_2 : Kd.C (Kd.int .i64) w A0_2 l0_2.length l0_2) (hc0_2 : l0_2.length ≤ c0_2) (h : laws_FnExactDistancesFrom.f k a0_0 a0_1 l0_2 a1_0 a1_1 a2 = some r) :
  Calls Try.prog 8 #[.agg #[.int .i64 a0_0, .int .i64 a0_1, .slice A0_2 l0_2.length c0_2], .agg #[.int .i64 a1_0, .int .i64 a1_1], .int .i64 a2] w fun e w' => e = .returned (.bool r) ∧ Below w.heap.size w w' := by
 have hu24 := Try.underlying24
 have hu26 := Try.underlying26
 have hu30 := Try.underlying30
 have HR0_2 := Aside0.mk hr0_2
 have HC0_2 := Aside0.mk hc0_2
 clear hr0_2 hc0_2
 have HB := Aside0.mk (Below.refl w.heap.size w)
 have H : ((laws_szBoard.f a0_0 a0_1 l0_2 1048576).bind fun t761 => (if t761 < 0 then (some true) else ((laws_toBoard.f k a0_0 a0_1 l0_2).bind fun bt762 => ((laws_toLeaper.f a1_0 a1_1).bind fun bt767 => ((spec_DistancesFrom.f k bt762.1 bt762.2.1 bt762.2.2 bt767.1 bt767.2 a2).bind fun bt769 => ((laws_toBoard.f k a0_0 a0_1 l0_2).bind fun bt773 => ((laws_toLeaper.f a1_0 a1_1).bind fun bt779 => ((impl_DistancesFrom.f k bt773.1 bt773.2.1 bt773.2.2 bt779.1 bt779.2 a2).bind fun bt781 => ((laws_eqIntS.f k bt781.1 bt769.1).bind fun t785 => (if t785 = true then (laws_FnExactDistancesFrom.j0 k a2 bt769.1 bt769.2 bt781.1 bt781.2 (bt781.2 != bt769.2) a0_0 a0_1 l0_2 a1_0 a1_1 bt773.1 bt773.2.1 bt773.2.2) else (laws_FnExactDistancesFrom.j0 k a2 bt769.1 bt769.2 bt781.1 bt781.2 true a0_0 a0_1 l0_2 a1_0 a1_1 bt773.1 bt773.2.1 bt773.2.2))))))))))) = some r := h
 clear h
 replace H := Option.bind_eq_some_iff.mp H
 obtain ⟨t761, A40, H⟩ := H
 replace H : (if t761 < 0 then (some true) else ((laws_toBoard.f k a0_0 a0_1 l0_2).bind fun bt762 => ((laws_toLeaper.f a1_0 a1_1).bind fun bt767 => ((spec_DistancesFrom.f k bt762.1 bt762.2.1 bt762.2.2 bt767.1 bt767.2 a2).bind fun bt769 => ((laws_toBoard.f k a0_0 a0_1 l0_2).bind fun bt773 => ((laws_toLeaper.f a1_0 a1_1).bind fun bt779 => ((impl_DistancesFrom.f k bt773.1 bt773.2.1 bt773.2.2 bt779.1 bt779.2 a2).bind fun bt781 => ((laws_eqIntS.f k bt781.1 bt769.1).bind fun t785 => (if t785 = true then (laws_FnExactDistancesFrom.j0 k a2 bt769.1 bt769.2 bt781.1 bt781.2 (bt781.2 != bt769.2) a0_0 a0_1 l0_2 a1_0 a1_1 bt773.1 bt773.2.1 bt773.2.2) else (laws_FnExactDistancesFrom.j0 k a2 bt769.1 bt769.2 bt781.1 bt781.2 true a0_0 a0_1 l0_2 a1_0 a1_1 bt773.1 bt773.2.1 bt773.2.2)))))))))) = some r := H
 have A4 := Aside0.mk A40
 clear A40
 by_cases c5 : t761 < 0
 ·rw [if_pos c5] at H
  have c5b0 : decide (t761 < 0) = true := decide_eq_true c5
  clear c5
  obtain rfl := Option.some.inj H
  go_enter Try.func8, Try.ntmps8
  go_wp2_with (first | ((with_reducible refine gate_dst (N := 3) rfl ?_); refine box_event ?hg (N := 3) ?hd (cs := #[.int .i64 a0_0, .int .i64 a0_1, .slice A0_2 l0_2.length c0_2]) (t := 24) ?hr ?_; (case hd => rfl); (case hg => rfl); (case hr => first | (go_simp; done) | (go_simp; rfl)); intro gb759 hg w6 hbox hb; have n0_ := Aside0.mk (below_step zah16 hb); have n1_ := Aside0.mk (hbox); have n2_ := Aside0.mk ((by rw [hg]; exact (below_size zah16) : w.heap.size ≤ gb759)); have n3_ := Aside0.mk ((by rw [hg]; exact (below_size zah16) : w.heap.size ≤ gb759)); clear HB; have HB := n0_; have BK759 := n1_; have GW759 := n2_; have GE759 := n3_; clear n0_ n1_ n2_ n3_; clear hb hbox hg) | ((with_reducible refine gate_dst (N := 4) rfl ?_); refine box_event ?hg (N := 4) ?hd (cs := #[.int .i64 a1_0, .int .i64 a1_1]) (t := 26) ?hr ?_; (case hd => rfl); (case hg => rfl); (case hr => first | (go_simp; done) | (go_simp; rfl)); intro gb760 hg w7 hbox hb; have n0_ := Aside0.mk (blk_below (g := gb759) (o := .cells #[.int .i64 a0_0, .int .i64 a0_1, .slice A0_2 l0_2.length c0_2] 24 (0, 0)) zah2 hb); have n1_ := Aside0.mk (below_step zah15 hb); have n2_ := Aside0.mk (hbox); have n3_ := Aside0.mk ((by rw [hg]; exact (below_size zah15) : w.heap.size ≤ gb760)); have n4_ := Aside0.mk ((by rw [hg]; exact (below_size zah15) : w.heap.size ≤ gb760)); have n5_ := Aside0.mk ((zah40 : gb759 ≠ gb760)); have n6_ := Aside0.mk ((zah41 : gb760 ≠ gb759)); clear BK759; clear HB; have BK759 := n0_; have HB := n1_; have BK760 := n2_; have GW760 := n3_; have GE760 := n4_; have NB759_760 := n5_; have NB760_759 := n6_; clear n0_ n1_ n2_ n3_ n4_ n5_ n6_; clear hb hbox hg; have hnb8 := NB759_760.out; have hnc8 := NB760_759.out; have hcz9_0 : w7.cell? ⟨gb759, 0, none⟩ = some (.int .i64 a0_0) := (blk_cell BK759.out 0).trans rfl; have hcz9_1 : w7.cell? ⟨gb759, 1, none⟩ = some (.int .i64 a0_1) := (blk_cell BK759.out 1).trans rfl; have hcz9_2 : w7.cell? ⟨gb759, 2, none⟩ = some (.slice A0_2 l0_2.length c0_2) := (blk_cell BK759.out 2).trans rfl; have hfz9_0 := blk_frozen BK759.out 0; have hfz9_1 := blk_frozen BK759.out 1; have hfz9_2 := blk_frozen BK759.out 2) | ((with_reducible refine gate_callee (f := 15) rfl ?_); refine goesL_ (some 20) rfl rfl Try.func15 (by kernel_rfl) rfl #[.agg #[.int .i64 a0_0, .int .i64 a0_1, .slice A0_2 l0_2.length c0_2], .int .i64 1048576] rfl zah3 ?_; (with_reducible refine (laws_szBoard.calls a0_0 a0_1 _ _ l0_2 1048576 t761 _ ?side1 ?side2 A4.out).mono ?_); (case side1 => exact zah12); (case side2 => exact HC0_2.out); rintro e w10 ⟨rfl, hb⟩; refine ⟨_, rfl, ?_⟩; have n0_ := Aside0.mk (blk_below (g := gb759) (o := .cells #[.int .i64 a0_0, .int .i64 a0_1, .slice A0_2 l0_2.length c0_2] 24 (0, 0)) zah2 hb); have n1_ := Aside0.mk (blk_below (g := gb760) (o := .cells #[.int .i64 a1_0, .int .i64 a1_1] 26 (0, 0)) zah4 hb); have n2_ := Aside0.mk (below_step zah6 hb); clear BK759; clear BK760; clear HB; have BK759 := n0_; have BK760 := n1_; have HB := n2_; clear n0_ n1_ n2_; (try clear hb); (try clear hb2); (try clear hk); (try clear hi); (try clear hna_); (try clear hnb_)))
  go_ret
  exact ⟨zah13, zah6⟩
 rw [if_neg c5] at H
 have c5b0 : decide (t761 < 0) = false := decide_eq_false c5
 clear c5
 replace H := Option.bind_eq_some_iff.mp H
 obtain ⟨⟨t762, t763, t764⟩, A110, H⟩ := H
 replace H : ((laws_toLeaper.f a1_0 a1_1).bind fun bt767 => ((spec_DistancesFrom.f k t762 t763 t764 bt767.1 bt767.2 a2).bind fun bt769 => ((laws_toBoard.f k a0_0 a0_1 l0_2).bind fun bt773 => ((laws_toLeaper.f a1_0 a1_1).bind fun bt779 => ((impl_DistancesFrom.f k bt773.1 bt773.2.1 bt773.2.2 bt779.1 bt779.2 a2).bind fun bt781 => ((laws_eqIntS.f k bt781.1 bt769.1).bind fun t785 => (if t785 = true then (laws_FnExactDistancesFrom.j0 k a2 bt769.1 bt769.2 bt781.1 bt781.2 (bt781.2 != bt769.2) a0_0 a0_1 l0_2 a1_0 a1_1 bt773.1 bt773.2.1 bt773.2.2) else (laws_FnExactDistancesFrom.j0 k a2 bt769.1 bt769.2 bt781.1 bt781.2 true a0_0 a0_1 l0_2 a1_0 a1_1 bt773.1 bt773.2.1 bt773.2.2)))))))) = some r := H
 have A11 := Aside0.mk A110
 clear A110
 replace H := Option.bind_eq_some_iff.mp H
 obtain ⟨⟨t767, t768⟩, A120, H⟩ := H
 replace H : ((spec_DistancesFrom.f k t762 t763 t764 t767 t768 a2).bind fun bt769 => ((laws_toBoard.f k a0_0 a0_1 l0_2).bind fun bt773 => ((laws_toLeaper.f a1_0 a1_1).bind fun bt779 => ((impl_DistancesFrom.f k bt773.1 bt773.2.1 bt773.2.2 bt779.1 bt779.2 a2).bind fun bt781 => ((laws_eqIntS.f k bt781.1 bt769.1).bind fun t785 => (if t785 = true then (laws_FnExactDistancesFrom.j0 k a2 bt769.1 bt769.2 bt781.1 bt781.2 (bt781.2 != bt769.2) a0_0 a0_1 l0_2 a1_0 a1_1 bt773.1 bt773.2.1 bt773.2.2) else (laws_FnExactDistancesFrom.j0 k a2 bt769.1 bt769.2 bt781.1 bt781.2 true a0_0 a0_1 l0_2 a1_0 a1_1 bt773.1 bt773.2.1 bt773.2.2))))))) = some r := H
 have A12 := Aside0.mk A120
 clear A120
 replace H := Option.bind_eq_some_iff.mp H
 obtain ⟨⟨t769, t772⟩, A130, H⟩ := H
 replace H : ((laws_toBoard.f k a0_0 a0_1 l0_2).bind fun bt773 => ((laws_toLeaper.f a1_0 a1_1).bind fun bt779 => ((impl_DistancesFrom.f k bt773.1 bt773.2.1 bt773.2.2 bt779.1 bt779.2 a2).bind fun bt781 => ((laws_eqIntS.f k bt781.1 t769).bind fun t785 => (if t785 = true then (laws_FnExactDistancesFrom.j0 k a2 t769 t772 bt781.1 bt781.2 (bt781.2 != t772) a0_0 a0_1 l0_2 a1_0 a1_1 bt773.1 bt773.2.1 bt773.2.2) else (laws_FnExactDistancesFrom.j0 k a2 t769 t772 bt781.1 bt781.2 true a0_0 a0_1 l0_2 a1_0 a1_1 bt773.1 bt773.2.1 bt773.2.2)))))) = some r := H
 have A13 := Aside0.mk A130
 clear A130
 replace H := Option.bind_eq_some_iff.mp H
 obtain ⟨⟨t773, t774, t775⟩, A140, H⟩ := H
 replace H : ((laws_toLeaper.f a1_0 a1_1).bind fun bt779 => ((impl_DistancesFrom.f k t773 t774 t775 bt779.1 bt779.2 a2).bind fun bt781 => ((laws_eqIntS.f k bt781.1 t769).bind fun t785 => (if t785 = true then (laws_FnExactDistancesFrom.j0 k a2 t769 t772 bt781.1 bt781.2 (bt781.2 != t772) a0_0 a0_1 l0_2 a1_0 a1_1 t773 t774 t775) else (laws_FnExactDistancesFrom.j0 k a2 t769 t772 bt781.1 bt781.2 true a0_0 a0_1 l0_2 a1_0 a1_1 t773 t774 t775))))) = some r := H
 have A14 := Aside0.mk A140
 clear A140
 replace H := Option.bind_eq_some_iff.mp H
 obtain ⟨⟨t779, t780⟩, A150, H⟩ := H
 replace H : ((impl_DistancesFrom.f k t773 t774 t775 t779 t780 a2).bind fun bt781 => ((laws_eqIntS.f k bt781.1 t769).bind fun t785 => (if t785 = true then (laws_FnExactDistancesFrom.j0 k a2 t769 t772 bt781.1 bt781.2 (bt781.2 != t772) a0_0 a0_1 l0_2 a1_0 a1_1 t773 t774 t775) else (laws_FnExactDistancesFrom.j0 k a2 t769 t772 bt781.1 bt781.2 true a0_0 a0_1 l0_2 a1_0 a1_1 t773 t774 t775)))) = some r := H
 have A15 := Aside0.mk A150
 clear A150
 replace H := Option.bind_eq_some_iff.mp H
 obtain ⟨⟨t781, t784⟩, A160, H⟩ := H
 replace H : ((laws_eqIntS.f k t781 t769).bind fun t785 => (if t785 = true then (laws_FnExactDistancesFrom.j0 k a2 t769 t772 t781 t784 (t784 != t772) a0_0 a0_1 l0_2 a1_0 a1_1 t773 t774 t775) else (laws_FnExactDistancesFrom.j0 k a2 t769 t772 t781 t784 true a0_0 a0_1 l0_2 a1_0 a1_1 t773 t774 t775))) = some r := H
 have A16 := Aside0.mk A160
 clear A160
 have HC17 := Aside0.mk H
 clear H
 go_enter Try.func8, Try.ntmps8
 try go_wp2_with (first | ((with_reducible refine gate_dst (N := 3) rfl ?_); refine box_event ?hg (N := 3) ?hd (cs := #[.int .i64 a0_0, .int .i64 a0_1, .slice A0_2 l0_2.length c0_2]) (t := 24) ?hr ?_; (case hd => rfl); (case hg => rfl); (case hr => first | (go_simp; done) | (go_simp; rfl)); intro gb759 hg w18 hbox hb; have n0_ := Aside0.mk (below_step zah16 hb); have n1_ := Aside0.mk (hbox); have n2_ := Aside0.mk ((by rw [hg]; exact (below_size zah16) : w.heap.size ≤ gb759)); have n3_ := Aside0.mk ((by rw [hg]; exact (below_size zah16) : w.heap.size ≤ gb759)); clear HB; have HB := n0_; have BK759 := n1_; have GW759 := n2_; have GE759 := n3_; clear n0_ n1_ n2_ n3_; clear hb hbox hg) | ((with_reducible refine gate_dst (N := 4) rfl ?_); refine box_event ?hg (N := 4) ?hd (cs := #[.int .i64 a1_0, .int .i64 a1_1]) (t := 26) ?hr ?_; (case hd => rfl); (case hg => rfl); (case hr => first | (go_simp; done) | (go_simp; rfl)); intro gb760 hg w19 hbox hb; have n0_ := Aside0.mk (blk_below (g := gb759) (o := .cells #[.int .i64 a0_0, .int .i64 a0_1, .slice A0_2 l0_2.length c0_2] 24 (0, 0)) zah2 hb); have n1_ := Aside0.mk (below_step zah15 hb); have n2_ := Aside0.mk (hbox); have n3_ := Aside0.mk ((by rw [hg]; exact (below_size zah15) : w.heap.size ≤ gb760)); have n4_ := Aside0.mk ((by rw [hg]; exact (below_size zah15) : w.heap.size ≤ gb760)); have n5_ := Aside0.mk ((zah40 : gb759 ≠ gb760)); have n6_ := Aside0.mk ((zah41 : gb760 ≠ gb759)); clear BK759; clear HB; have BK759 := n0_; have HB := n1_; have BK760 := n2_; have GW760 := n3_; have GE760 := n4_; have NB759_760 := n5_; have NB760_759 := n6_; clear n0_ n1_ n2_ n3_ n4_ n5_ n6_; clear hb hbox hg; have hnb20 := NB759_760.out; have hnc20 := NB760_759.out; have hcz21_0 : w19.cell? ⟨gb759, 0, none⟩ = some (.int .i64 a0_0) := (blk_cell BK759.out 0).trans rfl; have hcz21_1 : w19.cell? ⟨gb759, 1, none⟩ = some (.int .i64 a0_1) := (blk_cell BK759.out 1).trans rfl; have hcz21_2 : w19.cell? ⟨gb759, 2, none⟩ = some (.slice A0_2 l0_2.length c0_2) := (blk_cell BK759.out 2).trans rfl; have hfz21_0 := blk_frozen BK759.out 0; have hfz21_1 := blk_frozen BK759.out 1; have hfz21_2 := blk_frozen BK759.out 2) | ((with_reducible refine gate_callee (f := 15) rfl ?_); refine goesL_ (some 20) rfl rfl Try.func15 (by kernel_rfl) rfl #[.agg #[.int .i64 a0_0, .int .i64 a0_1, .slice A0_2 l0_2.length c0_2], .int .i64 1048576] rfl zah3 ?_; (with_reducible refine (laws_szBoard.calls a0_0 a0_1 _ _ l0_2 1048576 t761 _ ?side1 ?side2 A4.out).mono ?_); (case side1 => exact zah12); (case side2 => exact HC0_2.out); rintro e w22 ⟨rfl, hb⟩; refine ⟨_, rfl, ?_⟩; have n0_ := Aside0.mk (blk_below (g := gb759) (o := .cells #[.int .i64 a0_0, .int .i64 a0_1, .slice A0_2 l0_2.length c0_2] 24 (0, 0)) zah2 hb); have n1_ := Aside0.mk (blk_below (g := gb760) (o := .cells #[.int .i64 a1_0, .int .i64 a1_1] 26 (0, 0)) zah4 hb); have n2_ := Aside0.mk (below_step zah6 hb); clear BK759; clear BK760; clear HB; have BK759 := n0_; have BK760 := n1_; have HB := n2_; clear n0_ n1_ n2_; (try clear hb); (try clear hb2); (try clear hk); (try clear hi); (try clear hna_); (try clear hnb_)))
 have n0_ := Aside0.mk (blk_drew BK759.out)
 have n1_ := Aside0.mk (blk_drew BK760.out)
 have n2_ := Aside0.mk (below_drew1 HB.out)
 clear BK759
 clear BK760
 clear HB
 have BK759 := n0_
 have BK760 := n1_
 have HB := n2_
 clear n0_ n1_ n2_
 refine start_ (n := 11) (S := fun w' => w'.cell? ⟨gb759, 0, none⟩ = some (.int .i64 a0_0) ∧ w'.cell? ⟨gb759, 1, none⟩ = some (.int .i64 a0_1) ∧ w'.cell? ⟨gb759, 2, none⟩ = some (.slice A0_2 l0_2.length c0_2) ∧ w'.cell? ⟨gb760, 0, none⟩ = some (.int .i64 a1_0) ∧ w'.cell? ⟨gb760, 1, none⟩ = some (.int .i64 a1_1)) (ds := []) #[false, false, false, false, false, false, false, false, false, false, false] (by kernel_rfl) rfl rfl ⟨(blk_cell BK759.out 0).trans rfl, (blk_cell BK759.out 1).trans rfl, (blk_cell BK759.out 2).trans rfl, (blk_cell BK760.out 0).trans rfl, (blk_cell BK760.out 1).trans rfl⟩ (fun hHeld => ?_); refine with_tabW laws_FnExactDistancesFrom.tab5 laws_FnExactDistancesFrom.bits5 (fun HT_ HW_ => ?_)
 generalize w22.drew = w23 at BK759 BK760 HB hHeld ⊢
 refine pure_ (i := 4) (N := some 28) (v := ?_) (a' := ?_) #[false, false, false, false, true, false, false, false, false, false, false] rfl rfl (any_of HT_.out (by kernel_rfl)) (fun _ _ _ h => h) (Or.inl ⟨by rfl, ?_⟩) ?_ ?_
 rotate_left
 ·intro w'
  go_simp
  with_reducible rfl
 rotate_left
 ·simp only [Act.put, List.setIfInBounds_toArray, List.set_cons_zero, List.set_cons_succ, i64_w, i32_w]
  rfl
 refine take_ (i := 0) (N := some 24) (v := ?_) (a' := ?_) #[true, false, false, false, true, false, false, false, false, false, false] rfl rfl (take_ofW HT_.out HW_.out (by kernel_rfl)) (fun _ _ _ h => h) (Or.inl ⟨by rfl, ?_⟩) hHeld ?_ ?_
 rotate_left
 ·rintro w' ⟨s0, s1, s2, s3, s4⟩
  go_simp
  with_reducible rfl
 rotate_left
 ·simp only [Act.put, List.setIfInBounds_toArray, List.set_cons_zero, List.set_cons_succ, i64_w, i32_w]
  rfl
 refine take_ (i := 2) (N := some 26) (v := ?_) (a' := ?_) #[true, false, true, false, true, false, false, false, false, false, false] rfl rfl (take_ofW HT_.out HW_.out (by kernel_rfl)) (fun _ _ _ h => h) (Or.inl ⟨by rfl, ?_⟩) hHeld ?_ ?_
 rotate_left
 ·rintro w' ⟨s0, s1, s2, s3, s4⟩
  go_simp
  with_reducible rfl
 rotate_left
 ·simp only [Act.put, List.setIfInBounds_toArray, List.set_cons_zero, List.set_cons_succ, i64_w, i32_w]
  rfl
 refine one_ (i := 1) (N := some 25) #[true, true, true, false, true, false, false, false, false, false, false] rfl rfl (one_of HT_.out (by kernel_rfl)) (by decide) (fun K hK => ?_)
 refine goes_ Try.func17 (by kernel_rfl) rfl #[.agg #[.int .i64 a0_0, .int .i64 a0_1, .slice A0_2 l0_2.length c0_2]] (by rfl) rfl rfl zah3 ?_
 with_reducible refine (laws_toBoard.calls k a0_0 a0_1 _ _ l0_2 t762 t763 t764 _ ?side1 ?side2 A11.out).mono ?_
 (case side1 => exact zah12)
 (case side2 => exact HC0_2.out)
 rintro e w24 ⟨v765, rfl, ho0, hb⟩
 refine ⟨_, rfl, ?_⟩
 have n0_ := Aside0.mk (Kd.R_lower ho0 (below_size zah6))
 have n1_ := Aside0.mk (blk_below (g := gb759) (o := .cells #[.int .i64 a0_0, .int .i64 a0_1, .slice A0_2 l0_2.length c0_2] 24 (0, 0)) zah2 hb)
 have n2_ := Aside0.mk (blk_below (g := gb760) (o := .cells #[.int .i64 a1_0, .int .i64 a1_1] 26 (0, 0)) zah4 hb)
 have n3_ := Aside0.mk (below_step zah6 hb)
 clear BK759
 clear BK760
 clear HB
 have HO766 := n0_
 have BK759 := n1_
 have BK760 := n2_
 have HB := n3_
 clear n0_ n1_ n2_ n3_
 (try clear hb)
 (try clear hb2)
 (try clear hk)
 (try clear hi)
 (try clear ho0)
 (try clear hna_)
 (try clear hnb_)
 refine hK.out _ _ ⟨(blk_cell BK759.out 0).trans rfl, (blk_cell BK759.out 1).trans rfl, (blk_cell BK759.out 2).trans rfl, (blk_cell BK760.out 0).trans rfl, (blk_cell BK760.out 1).trans rfl⟩ (fun hHeld => ?_)
 clear hK K
 refine norm_ (a' := ?_) ?_ ?_
 rotate_left
 ·show Act.put _ (some 25) _ = _
  simp only [Act.put, List.setIfInBounds_toArray, List.set_cons_zero, List.set_cons_succ, i64_w, i32_w]
  rfl
 refine one_ (i := 3) (N := some 27) #[true, true, true, true, true, false, false, false, false, false, false] rfl rfl (one_of HT_.out (by kernel_rfl)) (by decide) (fun K hK => ?_)
 refine goes_ Try.func18 (by kernel_rfl) rfl #[.agg #[.int .i64 a1_0, .int .i64 a1_1]] (by rfl) rfl rfl zah3 ?_
 with_reducible refine (laws_toLeaper.calls a1_0 a1_1 t767 t768 _ A12.out).mono ?_
 rintro e w25 ⟨rfl, hb⟩
 refine ⟨_, rfl, ?_⟩
 have n0_ := Aside0.mk (Kd.R_below zah14 hb)
 have n1_ := Aside0.mk (blk_below (g := gb759) (o := .cells #[.int .i64 a0_0, .int .i64 a0_1, .slice A0_2 l0_2.length c0_2] 24 (0, 0)) zah2 hb)
 have n2_ := Aside0.mk (blk_below (g := gb760) (o := .cells #[.int .i64 a1_0, .int .i64 a1_1] 26 (0, 0)) zah4 hb)
 have n3_ := Aside0.mk (below_step zah6 hb)
 clear HO766
 clear BK759
 clear BK760
 clear HB
 have HO766 := n0_
 have BK759 := n1_
 have BK760 := n2_
 have HB := n3_
 clear n0_ n1_ n2_ n3_
 (try clear hb)
 (try clear hb2)
 (try clear hk)
 (try clear hi)
 (try clear hna_)
 (try clear hnb_)
 obtain ⟨Ao26, co26, eo26⟩ := Kd.R_slice HO766.out
 (first | subst eo26 | (injection eo26 with f1_ f2_ f3_; have f4_ := f1_.symm; have f5_ := f3_.symm; clear f1_ f2_ f3_; subst f4_; subst f5_))
 refine hK.out _ _ ⟨(blk_cell BK759.out 0).trans rfl, (blk_cell BK759.out 1).trans rfl, (blk_cell BK759.out 2).trans rfl, (blk_cell BK760.out 0).trans rfl, (blk_cell BK760.out 1).trans rfl⟩ (fun hHeld => ?_)
 clear hK K
 refine norm_ (a' := ?_) ?_ ?_
 rotate_left
 ·show Act.put _ (some 27) _ = _
  simp only [Act.put, List.setIfInBounds_toArray, List.set_cons_zero, List.set_cons_succ, i64_w, i32_w]
  rfl
 refine one_ (i := 5) (N := some 29) #[true, true, true, true, true, true, false, false, false, false, false] rfl rfl (one_of HT_.out (by kernel_rfl)) (by decide) (fun K hK => ?_)
 refine goes_ Try.func34 (by kernel_rfl) rfl #[.agg #[.int .i64 t762, .int .i64 t763, .slice Ao26 t764.length co26], .agg #[.int .i64 t767, .int .i64 t768], .int .i64 a2] (by rfl) rfl rfl zah3 ?_
 with_reducible refine (spec_DistancesFrom.calls k t762 t763 _ _ t764 t767 t768 a2 t769 t772 _ ?side1 ?side2 A13.out).mono ?_
 (case side1 => repeat (first | exact (Kd.R_reads' HO766.out).2.2 | (with_reducible refine Kd.C_alloc ?_ _) | (with_reducible refine Kd.C_drewN ?_ _) | (with_reducible refine Kd.C_drew ?_)))
 (case side2 => exact (Kd.R_reads' HO766.out).2.1)
 rintro e w27 ⟨v770, rfl, ho0, hb⟩
 refine ⟨_, rfl, ?_⟩
 have n0_ := Aside0.mk (Kd.R_elder' zah14 (Kd.R_base ho0) hb)
 have n1_ := Aside0.mk (Kd.R_lower (Kd.R_new' ho0 (Kd.R_lt zah14)) (below_size zah6))
 have n2_ := Aside0.mk (blk_below (g := gb759) (o := .cells #[.int .i64 a0_0, .int .i64 a0_1, .slice A0_2 l0_2.length c0_2] 24 (0, 0)) zah2 hb)
 have n3_ := Aside0.mk (blk_below (g := gb760) (o := .cells #[.int .i64 a1_0, .int .i64 a1_1] 26 (0, 0)) zah4 hb)
 have n4_ := Aside0.mk (below_step zah6 hb)
 clear HO766
 clear BK759
 clear BK760
 clear HB
 have HO766 := n0_
 have HO771 := n1_
 have BK759 := n2_
 have BK760 := n3_
 have HB := n4_
 clear n0_ n1_ n2_ n3_ n4_
 (try clear hb)
 (try clear hb2)
 (try clear hk)
 (try clear hi)
 (try clear ho0)
 (try clear hna_)
 (try clear hnb_)
 refine hK.out _ _ ⟨(blk_cell BK759.out 0).trans rfl, (blk_cell BK759.out 1).trans rfl, (blk_cell BK759.out 2).trans rfl, (blk_cell BK760.out 0).trans rfl, (blk_cell BK760.out 1).trans rfl⟩ (fun hHeld => ?_)
 clear hK K
 refine norm_ (a' := ?_) ?_ ?_
 rotate_left
 ·show Act.put _ (some 29) _ = _
  simp only [Act.put, List.setIfInBounds_toArray, List.set_cons_zero, List.set_cons_succ, i64_w, i32_w]
  rfl
 refine pure_ (i := 6) (N := some 23) (v := ?_) (a' := ?_) #[true, true, true, true, true, true, true, false, false, false, false] rfl rfl (any_of HT_.out (by kernel_rfl)) (fun _ _ _ h => h) (Or.inl ⟨by rfl, ?_⟩) ?_ ?_
 rotate_left
 ·intro w'
  go_simp
  with_reducible rfl
 rotate_left
 ·simp only [Act.put, List.setIfInBounds_toArray, List.set_cons_zero, List.set_cons_succ, i64_w, i32_w]
  rfl
 refine pure_ (i := 7) (N := some 30) (v := ?_) (a' := ?_) #[true, true, true, true, true, true, true, true, false, false, false] rfl rfl (any_of HT_.out (by kernel_rfl)) (fun _ _ _ h => h) (Or.inl ⟨by rfl, ?_⟩) ?_ ?_
 rotate_left
 ·intro w'
  go_simp
  with_reducible rfl
 rotate_left
 ·simp only [Act.put, List.setIfInBounds_toArray, List.set_cons_zero, List.set_cons_succ, i64_w, i32_w]
  rfl
 refine pure_ (i := 8) (N := some 31) (v := ?_) (a' := ?_) #[true, true, true, true, true, true, true, true, true, false, false] rfl rfl (any_of HT_.out (by kernel_rfl)) (fun _ _ _ h => h) (Or.inl ⟨by rfl, ?_⟩) ?_ ?_
 rotate_left
 ·intro w'
  go_simp
  with_reducible rfl
 rotate_left
 ·simp only [Act.put, List.setIfInBounds_toArray, List.set_cons_zero, List.set_cons_succ, i64_w, i32_w]
  rfl
 refine pure_ (i := 9) (N := some 8) (v := ?_) (a' := ?_) #[true, true, true, true, true, true, true, true, true, true, false] rfl rfl (any_of HT_.out (by kernel_rfl)) (fun _ _ _ h => h) (Or.inl ⟨by rfl, ?_⟩) ?_ ?_
 rotate_left
 ·intro w'
  go_simp
  with_reducible rfl
 rotate_left
 ·simp only [Act.put, List.setIfInBounds_toArray, List.set_cons_zero, List.set_cons_succ, i64_w, i32_w]
  rfl
 refine pure_ (i := 10) (N := some 9) (v := ?_) (a' := ?_) #[true, true, true, true, true, true, true, true, true, true, true] rfl rfl (any_of HT_.out (by kernel_rfl)) (fun _ _ _ h => h) (Or.inl ⟨by rfl, ?_⟩) ?_ ?_
 rotate_left
 ·intro w'
  go_simp
  with_reducible rfl
 rotate_left
 ·simp only [Act.put, List.setIfInBounds_toArray, List.set_cons_zero, List.set_cons_succ, i64_w, i32_w]
  rfl
 refine done_ (done_of HT_.out (by kernel_rfl)) ?_
 have hcz28_0 : w27.cell? ⟨gb759, 0, none⟩ = some (.int .i64 a0_0) := (blk_cell BK759.out 0).trans rfl
 have hcz28_1 : w27.cell? ⟨gb759, 1, none⟩ = some (.int .i64 a0_1) := (blk_cell BK759.out 1).trans rfl
 have hcz28_2 : w27.cell? ⟨gb759, 2, none⟩ = some (.slice A0_2 l0_2.length c0_2) := (blk_cell BK759.out 2).trans rfl
 have hfz28_0 := blk_frozen BK759.out 0
 have hfz28_1 := blk_frozen BK759.out 1
 have hfz28_2 := blk_frozen BK759.out 2
 try go_wp2_with (first | ((with_reducible refine gate_callee (f := 17) rfl ?_); refine goesL_ (some 33) rfl rfl Try.func17 (by kernel_rfl) rfl #[.agg #[.int .i64 a0_0, .int .i64 a0_1, .slice A0_2 l0_2.length c0_2]] rfl zah3 ?_; (with_reducible refine (laws_toBoard.calls k a0_0 a0_1 _ _ l0_2 t773 t774 t775 _ ?side1 ?side2 A14.out).mono ?_); (case side1 => exact zah12); (case side2 => exact HC0_2.out); rintro e w29 ⟨v776, rfl, ho0, hb⟩; refine ⟨_, rfl, ?_⟩; have n0_ := Aside0.mk (Kd.R_elder' zah14 (Kd.R_base ho0) hb); have n1_ := Aside0.mk (Kd.R_elder' zah17 (Kd.R_base ho0) hb); have n2_ := Aside0.mk (Kd.R_lower (Kd.R_new' (Kd.R_new' ho0 (Kd.R_lt zah14)) (Kd.R_lt zah17)) (below_size zah6)); have n3_ := Aside0.mk (blk_below (g := gb759) (o := .cells #[.int .i64 a0_0, .int .i64 a0_1, .slice A0_2 l0_2.length c0_2] 24 (0, 0)) zah2 hb); have n4_ := Aside0.mk (blk_below (g := gb760) (o := .cells #[.int .i64 a1_0, .int .i64 a1_1] 26 (0, 0)) zah4 hb); have n5_ := Aside0.mk (below_step zah6 hb); clear HO766; clear HO771; clear BK759; clear BK760; clear HB; have HO766 := n0_; have HO771 := n1_; have HO777 := n2_; have BK759 := n3_; have BK760 := n4_; have HB := n5_; clear n0_ n1_ n2_ n3_ n4_ n5_; (try clear hb); (try clear hb2); (try clear hk); (try clear hi); (try clear ho0); (try clear hna_); (try clear hnb_)) | ((with_reducible refine gate_dst (N := 10) rfl ?_); refine box_event ?hg (N := 10) ?hd (cs := #[.int .i64 0, .int .i64 0, .slice none 0 0]) (t := 30) ?hr ?_; (case hd => rfl); (case hg => rfl); (case hr => first | (go_simp; done) | (go_simp; rfl)); intro gb778 hg w30 hbox hb; have n0_ := Aside0.mk (Kd.R_below zah14 hb); have n1_ := Aside0.mk (Kd.R_below zah17 hb); have n2_ := Aside0.mk (Kd.R_below zah20 hb); have n3_ := Aside0.mk (blk_below (g := gb759) (o := .cells #[.int .i64 a0_0, .int .i64 a0_1, .slice A0_2 l0_2.length c0_2] 24 (0, 0)) zah2 hb); have n4_ := Aside0.mk (blk_below (g := gb760) (o := .cells #[.int .i64 a1_0, .int .i64 a1_1] 26 (0, 0)) zah4 hb); have n5_ := Aside0.mk (below_step zah6 hb); have n6_ := Aside0.mk (hbox); have n7_ := Aside0.mk ((by rw [hg]; exact (below_size zah6) : w.heap.size ≤ gb778)); have n8_ := Aside0.mk ((by rw [hg]; exact (below_size zah6) : w.heap.size ≤ gb778)); have n9_ := Aside0.mk ((zah40 : gb759 ≠ gb778)); have n10_ := Aside0.mk ((zah41 : gb778 ≠ gb759)); have n11_ := Aside0.mk ((by rw [hg]; exact Nat.ne_of_lt (blk_lt (g := gb760) (o := .cells #[.int .i64 a1_0, .int .i64 a1_1] 26 (0, 0)) zah4) : gb760 ≠ gb778)); have n12_ := Aside0.mk ((by rw [hg]; exact Nat.ne_of_gt (blk_lt (g := gb760) (o := .cells #[.int .i64 a1_0, .int .i64 a1_1] 26 (0, 0)) zah4) : gb778 ≠ gb760)); clear HO766; clear HO771; clear HO777; clear BK759; clear BK760; clear HB; have HO766 := n0_; have HO771 := n1_; have HO777 := n2_; have BK759 := n3_; have BK760 := n4_; have HB := n5_; have BK778 := n6_; have GW778 := n7_; have GE778 := n8_; have NB759_778 := n9_; have NB778_759 := n10_; have NB760_778 := n11_; have NB778_760 := n12_; clear n0_ n1_ n2_ n3_ n4_ n5_ n6_ n7_ n8_ n9_ n10_ n11_ n12_; clear hb hbox hg; have hnb31 := NB778_759.out; have hnc31 := NB759_778.out; have hnb32 := NB778_760.out; have hnc32 := NB760_778.out; have hcz33_0 : w30.cell? ⟨gb778, 0, none⟩ = some (.int .i64 0) := (blk_cell BK778.out 0).trans rfl; have hcz33_1 : w30.cell? ⟨gb778, 1, none⟩ = some (.int .i64 0) := (blk_cell BK778.out 1).trans rfl; have hcz33_2 : w30.cell? ⟨gb778, 2, none⟩ = some (.slice none 0 0) := (blk_cell BK778.out 2).trans rfl; have hfz33_0 := blk_frozen BK778.out 0; have hfz33_1 := blk_frozen BK778.out 1; have hfz33_2 := blk_frozen BK778.out 2; obtain ⟨Ao34, co34, eo34⟩ := Kd.R_slice HO777.out; subst eo34))
 have n0_ : Aside0 (Kd.R (Kd.int .i64) 3 (((w30.setCell ⟨gb778, 0, none⟩ (.int .i64 t773)).setCell ⟨gb778, 1, none⟩ (.int .i64 t774)).setCell ⟨gb778, 2, none⟩ (.slice Ao34 t775.length co34)) w.heap.size (fun k_ => some k_ ≠ (v770 : Value).ownBlock ∧ some k_ ≠ (.slice Ao34 t775.length co34 : Value).ownBlock) (.slice Ao26 t764.length co26) t764) := ⟨by (with_reducible repeat (first | apply Kd.R_alloc | apply Kd.R_drewN | apply Kd.R_drew)); exact Kd.R_mono (Kd.R_far (p := ⟨gb778, 2, none⟩) (Kd.R_far (p := ⟨gb778, 1, none⟩) (Kd.R_far (p := ⟨gb778, 0, none⟩) (Kd.R_types HO766.out BK778.out (by decide)) (fun _ hk => hk.2) (.int .i64 t773)) (fun _ hk => hk.2) (.int .i64 t774)) (fun _ hk => hk.2) (.slice Ao34 t775.length co34)) (fun _ hk => ⟨hk.1.1.2, hk.1.2⟩)⟩
 have n1_ : Aside0 (Kd.R (Kd.int .i64) 3 (((w30.setCell ⟨gb778, 0, none⟩ (.int .i64 t773)).setCell ⟨gb778, 1, none⟩ (.int .i64 t774)).setCell ⟨gb778, 2, none⟩ (.slice Ao34 t775.length co34)) w.heap.size (fun k_ => some k_ ≠ (.slice Ao26 t764.length co26 : Value).ownBlock ∧ some k_ ≠ (.slice Ao34 t775.length co34 : Value).ownBlock) v770 t769) := ⟨by (with_reducible repeat (first | apply Kd.R_alloc | apply Kd.R_drewN | apply Kd.R_drew)); exact Kd.R_mono (Kd.R_far (p := ⟨gb778, 2, none⟩) (Kd.R_far (p := ⟨gb778, 1, none⟩) (Kd.R_far (p := ⟨gb778, 0, none⟩) (Kd.R_types HO771.out BK778.out (by decide)) (fun _ hk => hk.2) (.int .i64 t773)) (fun _ hk => hk.2) (.int .i64 t774)) (fun _ hk => hk.2) (.slice Ao34 t775.length co34)) (fun _ hk => ⟨hk.1.1.2, hk.1.2⟩)⟩
 have n2_ : Aside0 (Kd.R (Kd.int .i64) 3 (((w30.setCell ⟨gb778, 0, none⟩ (.int .i64 t773)).setCell ⟨gb778, 1, none⟩ (.int .i64 t774)).setCell ⟨gb778, 2, none⟩ (.slice Ao34 t775.length co34)) w.heap.size (fun k_ => some k_ ≠ (.slice Ao26 t764.length co26 : Value).ownBlock ∧ some k_ ≠ (v770 : Value).ownBlock) (.slice Ao34 t775.length co34) t775) := ⟨by (with_reducible repeat (first | apply Kd.R_alloc | apply Kd.R_drewN | apply Kd.R_drew)); exact Kd.R_mono (Kd.R_far (p := ⟨gb778, 2, none⟩) (Kd.R_far (p := ⟨gb778, 1, none⟩) (Kd.R_far (p := ⟨gb778, 0, none⟩) (Kd.R_types HO777.out BK778.out (by decide)) (fun _ hk => hk.2) (.int .i64 t773)) (fun _ hk => hk.2) (.int .i64 t774)) (fun _ hk => hk.2) (.slice Ao34 t775.length co34)) (fun _ hk => ⟨hk.1.1.2, hk.1.2⟩)⟩
 have n3_ : Aside0 ((((w30.setCell ⟨gb778, 0, none⟩ (.int .i64 t773)).setCell ⟨gb778, 1, none⟩ (.int .i64 t774)).setCell ⟨gb778, 2, none⟩ (.slice Ao34 t775.length co34)).heap[gb759]? = some (.cells #[.int .i64 a0_0, .int .i64 a0_1, .slice A0_2 l0_2.length c0_2] 24 (0, 0))) := ⟨by (with_reducible repeat (first | refine blk_drewN ?_ _ | refine blk_drew ?_ | refine blk_alloc ?_ _)); refine blk_far ?_ NB759_778.out _; (with_reducible repeat (first | refine blk_drewN ?_ _ | refine blk_drew ?_ | refine blk_alloc ?_ _)); refine blk_far ?_ NB759_778.out _; (with_reducible repeat (first | refine blk_drewN ?_ _ | refine blk_drew ?_ | refine blk_alloc ?_ _)); refine blk_far ?_ NB759_778.out _; (with_reducible repeat (first | refine blk_drewN ?_ _ | refine blk_drew ?_ | refine blk_alloc ?_ _)); exact BK759.out⟩
 have n4_ : Aside0 ((((w30.setCell ⟨gb778, 0, none⟩ (.int .i64 t773)).setCell ⟨gb778, 1, none⟩ (.int .i64 t774)).setCell ⟨gb778, 2, none⟩ (.slice Ao34 t775.length co34)).heap[gb760]? = some (.cells #[.int .i64 a1_0, .int .i64 a1_1] 26 (0, 0))) := ⟨by (with_reducible repeat (first | refine blk_drewN ?_ _ | refine blk_drew ?_ | refine blk_alloc ?_ _)); refine blk_far ?_ NB760_778.out _; (with_reducible repeat (first | refine blk_drewN ?_ _ | refine blk_drew ?_ | refine blk_alloc ?_ _)); refine blk_far ?_ NB760_778.out _; (with_reducible repeat (first | refine blk_drewN ?_ _ | refine blk_drew ?_ | refine blk_alloc ?_ _)); refine blk_far ?_ NB760_778.out _; (with_reducible repeat (first | refine blk_drewN ?_ _ | refine blk_drew ?_ | refine blk_alloc ?_ _)); exact BK760.out⟩
 have n5_ : Aside0 ((((w30.setCell ⟨gb778, 0, none⟩ (.int .i64 t773)).setCell ⟨gb778, 1, none⟩ (.int .i64 t774)).setCell ⟨gb778, 2, none⟩ (.slice Ao34 t775.length co34)).heap[gb778]? = some (.cells #[.int .i64 t773, .int .i64 t774, .slice Ao34 t775.length co34] 30 (0, 0))) := ⟨by (with_reducible repeat (first | refine blk_drewN ?_ _ | refine blk_drew ?_ | refine blk_alloc ?_ _)); refine blk_put (cs := #[.int .i64 t773, .int .i64 t774, .slice none 0 0]) ?_ 2 _ rfl; (with_reducible repeat (first | refine blk_drewN ?_ _ | refine blk_drew ?_ | refine blk_alloc ?_ _)); refine blk_put (cs := #[.int .i64 t773, .int .i64 0, .slice none 0 0]) ?_ 1 _ rfl; (with_reducible repeat (first | refine blk_drewN ?_ _ | refine blk_drew ?_ | refine blk_alloc ?_ _)); refine blk_put (cs := #[.int .i64 0, .int .i64 0, .slice none 0 0]) ?_ 0 _ rfl; (with_reducible repeat (first | refine blk_drewN ?_ _ | refine blk_drew ?_ | refine blk_alloc ?_ _)); exact BK778.out⟩
 have n6_ : Aside0 (Below w.heap.size w (((w30.setCell ⟨gb778, 0, none⟩ (.int .i64 t773)).setCell ⟨gb778, 1, none⟩ (.int .i64 t774)).setCell ⟨gb778, 2, none⟩ (.slice Ao34 t775.length co34))) := ⟨zah1⟩
 (try clear HO766)
 (try clear HO771)
 (try clear HO777)
 (try clear BK759)
 (try clear BK760)
 (try clear BK778)
 (try clear HB)
 generalize (((w30.setCell ⟨gb778, 0, none⟩ (.int .i64 t773)).setCell ⟨gb778, 1, none⟩ (.int .i64 t774)).setCell ⟨gb778, 2, none⟩ (.slice Ao34 t775.length co34)) = w35 at n0_ n1_ n2_ n3_ n4_ n5_ n6_ ⊢
 have HO766 := n0_
 have HO771 := n1_
 have HO777 := n2_
 have BK759 := n3_
 have BK760 := n4_
 have BK778 := n5_
 have HB := n6_
 clear n0_ n1_ n2_ n3_ n4_ n5_ n6_
 have n0_ := Aside0.mk (Kd.R_drew HO766.out)
 have n1_ := Aside0.mk (Kd.R_drew HO771.out)
 have n2_ := Aside0.mk (Kd.R_drew HO777.out)
 have n3_ := Aside0.mk (blk_drew BK759.out)
 have n4_ := Aside0.mk (blk_drew BK760.out)
 have n5_ := Aside0.mk (blk_drew BK778.out)
 have n6_ := Aside0.mk (below_drew1 HB.out)
 clear HO766
 clear HO771
 clear HO777
 clear BK759
 clear BK760
 clear BK778
 clear HB
 have HO766 := n0_
 have HO771 := n1_
 have HO777 := n2_
 have BK759 := n3_
 have BK760 := n4_
 have BK778 := n5_
 have HB := n6_
 clear n0_ n1_ n2_ n3_ n4_ n5_ n6_
 refine start_ (n := 10) (S := fun w' => w'.cell? ⟨gb778, 0, none⟩ = some (.int .i64 t773) ∧ w'.cell? ⟨gb778, 1, none⟩ = some (.int .i64 t774) ∧ w'.cell? ⟨gb778, 2, none⟩ = some (.slice Ao34 t775.length co34) ∧ w'.cell? ⟨gb760, 0, none⟩ = some (.int .i64 a1_0) ∧ w'.cell? ⟨gb760, 1, none⟩ = some (.int .i64 a1_1)) (ds := []) #[false, false, false, false, false, false, false, false, false, false] (by kernel_rfl) rfl rfl ⟨(blk_cell BK778.out 0).trans rfl, (blk_cell BK778.out 1).trans rfl, (blk_cell BK778.out 2).trans rfl, (blk_cell BK760.out 0).trans rfl, (blk_cell BK760.out 1).trans rfl⟩ (fun hHeld => ?_); refine with_tabW laws_FnExactDistancesFrom.tab7 laws_FnExactDistancesFrom.bits7 (fun HT_ HW_ => ?_)
 generalize w35.drew = w36 at HO766 HO771 HO777 BK759 BK760 BK778 HB hHeld ⊢
 refine pure_ (i := 3) (N := some 38) (v := ?_) (a' := ?_) #[false, false, false, true, false, false, false, false, false, false] rfl rfl (any_of HT_.out (by kernel_rfl)) (fun _ _ _ h => h) (Or.inl ⟨by rfl, ?_⟩) ?_ ?_
 rotate_left
 ·intro w'
  go_simp
  with_reducible rfl
 rotate_left
 ·simp only [Act.put, List.setIfInBounds_toArray, List.set_cons_zero, List.set_cons_succ, i64_w, i32_w]
  rfl
 refine take_ (i := 0) (N := some 35) (v := ?_) (a' := ?_) #[true, false, false, true, false, false, false, false, false, false] rfl rfl (take_ofW HT_.out HW_.out (by kernel_rfl)) (fun _ _ _ h => h) (Or.inl ⟨by rfl, ?_⟩) hHeld ?_ ?_
 rotate_left
 ·rintro w' ⟨s0, s1, s2, s3, s4⟩
  go_simp
  with_reducible rfl
 rotate_left
 ·simp only [Act.put, List.setIfInBounds_toArray, List.set_cons_zero, List.set_cons_succ, i64_w, i32_w]
  rfl
 refine take_ (i := 1) (N := some 36) (v := ?_) (a' := ?_) #[true, true, false, true, false, false, false, false, false, false] rfl rfl (take_ofW HT_.out HW_.out (by kernel_rfl)) (fun _ _ _ h => h) (Or.inl ⟨by rfl, ?_⟩) hHeld ?_ ?_
 rotate_left
 ·rintro w' ⟨s0, s1, s2, s3, s4⟩
  go_simp
  with_reducible rfl
 rotate_left
 ·simp only [Act.put, List.setIfInBounds_toArray, List.set_cons_zero, List.set_cons_succ, i64_w, i32_w]
  rfl
 refine one_ (i := 2) (N := some 37) #[true, true, true, true, false, false, false, false, false, false] rfl rfl (one_of HT_.out (by kernel_rfl)) (by decide) (fun K hK => ?_)
 refine goes_ Try.func18 (by kernel_rfl) rfl #[.agg #[.int .i64 a1_0, .int .i64 a1_1]] (by rfl) rfl rfl zah3 ?_
 with_reducible refine (laws_toLeaper.calls a1_0 a1_1 t779 t780 _ A15.out).mono ?_
 rintro e w37 ⟨rfl, hb⟩
 refine ⟨_, rfl, ?_⟩
 have n0_ := Aside0.mk (Kd.R_below zah14 hb)
 have n1_ := Aside0.mk (Kd.R_below zah17 hb)
 have n2_ := Aside0.mk (Kd.R_below zah20 hb)
 have n3_ := Aside0.mk (blk_below (g := gb759) (o := .cells #[.int .i64 a0_0, .int .i64 a0_1, .slice A0_2 l0_2.length c0_2] 24 (0, 0)) zah2 hb)
 have n4_ := Aside0.mk (blk_below (g := gb760) (o := .cells #[.int .i64 a1_0, .int .i64 a1_1] 26 (0, 0)) zah4 hb)
 have n5_ := Aside0.mk (blk_below (g := gb778) (o := .cells #[.int .i64 t773, .int .i64 t774, .slice Ao34 t775.length co34] 30 (0, 0)) zah7 hb)
 have n6_ := Aside0.mk (below_step zah1 hb)
 clear HO766
 clear HO771
 clear HO777
 clear BK759
 clear BK760
 clear BK778
 clear HB
 have HO766 := n0_
 have HO771 := n1_
 have HO777 := n2_
 have BK759 := n3_
 have BK760 := n4_
 have BK778 := n5_
 have HB := n6_
 clear n0_ n1_ n2_ n3_ n4_ n5_ n6_
 (try clear hb)
 (try clear hb2)
 (try clear hk)
 (try clear hi)
 (try clear hna_)
 (try clear hnb_)
 refine hK.out _ _ ⟨(blk_cell BK778.out 0).trans rfl, (blk_cell BK778.out 1).trans rfl, (blk_cell BK778.out 2).trans rfl, (blk_cell BK760.out 0).trans rfl, (blk_cell BK760.out 1).trans rfl⟩ (fun hHeld => ?_)
 clear hK K
 refine norm_ (a' := ?_) ?_ ?_
 rotate_left
 ·show Act.put _ (some 37) _ = _
  simp only [Act.put, List.setIfInBounds_toArray, List.set_cons_zero, List.set_cons_succ, i64_w, i32_w]
  rfl
 refine one_ (i := 4) (N := some 39) #[true, true, true, true, true, false, false, false, false, false] rfl rfl (one_of HT_.out (by kernel_rfl)) (by decide) (fun K hK => ?_)
 refine goes_ Try.func35 (by kernel_rfl) rfl #[.agg #[.int .i64 t773, .int .i64 t774, .slice Ao34 t775.length co34], .agg #[.int .i64 t779, .int .i64 t780], .int .i64 a2] (by rfl) rfl rfl zah3 ?_
 with_reducible refine (impl_DistancesFrom.calls k t773 t774 _ _ t775 t779 t780 a2 t781 t784 _ ?side1 ?side2 A16.out).mono ?_
 (case side1 => repeat (first | exact (Kd.R_reads' HO777.out).2.2 | (with_reducible refine Kd.C_alloc ?_ _) | (with_reducible refine Kd.C_drewN ?_ _) | (with_reducible refine Kd.C_drew ?_)))
 (case side2 => exact (Kd.R_reads' HO777.out).2.1)
 rintro e w38 ⟨v782, rfl, ho0, hb⟩
 refine ⟨_, rfl, ?_⟩
 have n0_ := Aside0.mk (Kd.R_elder' zah14 (Kd.R_base ho0) hb)
 have n1_ := Aside0.mk (Kd.R_elder' zah17 (Kd.R_base ho0) hb)
 have n2_ := Aside0.mk (Kd.R_elder' zah20 (Kd.R_base ho0) hb)
 have n3_ := Aside0.mk (Kd.R_lower (Kd.R_new' (Kd.R_new' (Kd.R_new' ho0 (Kd.R_lt zah14)) (Kd.R_lt zah17)) (Kd.R_lt zah20)) (below_size zah1))
 have n4_ := Aside0.mk (blk_below (g := gb759) (o := .cells #[.int .i64 a0_0, .int .i64 a0_1, .slice A0_2 l0_2.length c0_2] 24 (0, 0)) zah2 hb)
 have n5_ := Aside0.mk (blk_below (g := gb760) (o := .cells #[.int .i64 a1_0, .int .i64 a1_1] 26 (0, 0)) zah4 hb)
 have n6_ := Aside0.mk (blk_below (g := gb778) (o := .cells #[.int .i64 t773, .int .i64 t774, .slice Ao34 t775.length co34] 30 (0, 0)) zah7 hb)
 have n7_ := Aside0.mk (below_step zah1 hb)
 clear HO766
 clear HO771
 clear HO777
 clear BK759
 clear BK760
 clear BK778
 clear HB
 have HO766 := n0_
 have HO771 := n1_
 have HO777 := n2_
 have HO783 := n3_
 have BK759 := n4_
 have BK760 := n5_
 have BK778 := n6_
 have HB := n7_
 clear n0_ n1_ n2_ n3_ n4_ n5_ n6_ n7_
 (try clear hb)
 (try clear hb2)
 (try clear hk)
 (try clear hi)
 (try clear ho0)
 (try clear hna_)
 (try clear hnb_)
 refine hK.out _ _ ⟨(blk_cell BK778.out 0).trans rfl, (blk_cell BK778.out 1).trans rfl, (blk_cell BK778.out 2).trans rfl, (blk_cell BK760.out 0).trans rfl, (blk_cell BK760.out 1).trans rfl⟩ (fun hHeld => ?_)
 clear hK K
 refine norm_ (a' := ?_) ?_ ?_
 rotate_left
 ·show Act.put _ (some 39) _ = _
  simp only [Act.put, List.setIfInBounds_toArray, List.set_cons_zero, List.set_cons_succ, i64_w, i32_w]
  rfl
 refine pure_ (i := 5) (N := some 34) (v := ?_) (a' := ?_) #[true, true, true, true, true, true, false, false, false, false] rfl rfl (any_of HT_.out (by kernel_rfl)) (fun _ _ _ h => h) (Or.inl ⟨by rfl, ?_⟩) ?_ ?_
 rotate_left
 ·intro w'
  go_simp
  with_reducible rfl
 rotate_left
 ·simp only [Act.put, List.setIfInBounds_toArray, List.set_cons_zero, List.set_cons_succ, i64_w, i32_w]
  rfl
 refine pure_ (i := 6) (N := some 40) (v := ?_) (a' := ?_) #[true, true, true, true, true, true, true, false, false, false] rfl rfl (any_of HT_.out (by kernel_rfl)) (fun _ _ _ h => h) (Or.inl ⟨by rfl, ?_⟩) ?_ ?_
 rotate_left
 ·intro w'
  go_simp
  with_reducible rfl
 rotate_left
 ·simp only [Act.put, List.setIfInBounds_toArray, List.set_cons_zero, List.set_cons_succ, i64_w, i32_w]
  rfl
 refine pure_ (i := 7) (N := some 41) (v := ?_) (a' := ?_) #[true, true, true, true, true, true, true, true, false, false] rfl rfl (any_of HT_.out (by kernel_rfl)) (fun _ _ _ h => h) (Or.inl ⟨by rfl, ?_⟩) ?_ ?_
 rotate_left
 ·intro w'
  go_simp
  with_reducible rfl
 rotate_left
 ·simp only [Act.put, List.setIfInBounds_toArray, List.set_cons_zero, List.set_cons_succ, i64_w, i32_w]
  rfl
 refine pure_ (i := 8) (N := some 11) (v := ?_) (a' := ?_) #[true, true, true, true, true, true, true, true, true, false] rfl rfl (any_of HT_.out (by kernel_rfl)) (fun _ _ _ h => h) (Or.inl ⟨by rfl, ?_⟩) ?_ ?_
 rotate_left
 ·intro w'
  go_simp
  with_reducible rfl
 rotate_left
 ·simp only [Act.put, List.setIfInBounds_toArray, List.set_cons_zero, List.set_cons_succ, i64_w, i32_w]
  rfl
 refine pure_ (i := 9) (N := some 12) (v := ?_) (a' := ?_) #[true, true, true, true, true, true, true, true, true, true] rfl rfl (any_of HT_.out (by kernel_rfl)) (fun _ _ _ h => h) (Or.inl ⟨by rfl, ?_⟩) ?_ ?_
 rotate_left
 ·intro w'
  go_simp
  with_reducible rfl
 rotate_left
 ·simp only [Act.put, List.setIfInBounds_toArray, List.set_cons_zero, List.set_cons_succ, i64_w, i32_w]
  rfl
 refine done_ (done_of HT_.out (by kernel_rfl)) ?_
 go_upto_region 8 with (fail)
 go_cut [50] (fun v50 wc => ∃ (kq : Nat) (x50_16 : Bool), v50 = .bool x50_16 ∧ Aside0 (laws_FnExactDistancesFrom.j0 kq a2 t769 t772 t781 t784 x50_16 a0_0 a0_1 l0_2 a1_0 a1_1 t773 t774 t775 = some r) ∧ Aside0 (kq ≤ k) ∧ Aside0 (Kd.R (Kd.int .i64) 3 wc w.heap.size (fun k_ => some k_ ≠ (v782 : Value).ownBlock ∧ some k_ ≠ ((.slice Ao34 t775.length co34) : Value).ownBlock) v770 t769) ∧ Aside0 (Kd.R (Kd.int .i64) 3 wc w.heap.size (fun k_ => some k_ ≠ (v770 : Value).ownBlock ∧ some k_ ≠ ((.slice Ao34 t775.length co34) : Value).ownBlock) v782 t781) ∧ Aside0 (Kd.R (Kd.int .i64) 3 wc w.heap.size (fun k_ => some k_ ≠ (v770 : Value).ownBlock ∧ some k_ ≠ (v782 : Value).ownBlock) (.slice Ao34 t775.length co34) t775) ∧ Aside0 (wc.heap[gb759]? = some (.cells #[.int .i64 a0_0, .int .i64 a0_1, (.slice A0_2 l0_2.length c0_2)] 24 (0, 0))) ∧ Aside0 (wc.heap[gb760]? = some (.cells #[.int .i64 a1_0, .int .i64 a1_1] 26 (0, 0))) ∧ Aside0 (wc.heap[gb778]? = some (.cells #[.int .i64 t773, .int .i64 t774, (.slice Ao34 t775.length co34)] 30 (0, 0))) ∧ Aside0 (Below w.heap.size w wc))
 case first =>
  have H := HC17.out
  clear HC17
  replace H := Option.bind_eq_some_iff.mp H
  obtain ⟨t785, A390, H⟩ := H
  replace H : (if t785 = true then (laws_FnExactDistancesFrom.j0 k a2 t769 t772 t781 t784 (t784 != t772) a0_0 a0_1 l0_2 a1_0 a1_1 t773 t774 t775) else (laws_FnExactDistancesFrom.j0 k a2 t769 t772 t781 t784 true a0_0 a0_1 l0_2 a1_0 a1_1 t773 t774 t775)) = some r := H
  have A39 := Aside0.mk A390
  clear A390
  by_cases c40 : t785 = true
  ·subst c40
   have H1 : (laws_FnExactDistancesFrom.j0 k a2 t769 t772 t781 t784 (t784 != t772) a0_0 a0_1 l0_2 a1_0 a1_1 t773 t774 t775) = some r := by rw [if_pos rfl] at H; exact H
   clear H
   have H := H1
   clear H1
   have H' := Aside0.mk H
   clear H
   obtain ⟨Ao41, co41, eo41⟩ := Kd.R_slice HO783.out
   subst eo41
   obtain ⟨Ao42, co42, eo42⟩ := Kd.R_slice HO771.out
   subst eo42
   go_wp2_with (first | ((with_reducible refine gate_callee (f := 22) rfl ?_); refine goesL_ (some 44) rfl rfl Try.func22 (by kernel_rfl) rfl #[.slice Ao41 t781.length co41, .slice Ao42 t769.length co42] rfl zah3 ?_; (with_reducible refine (laws_eqIntS.calls k _ _ t781 _ _ t769 true _ ?side1 ?side2 ?side3 ?side4 A39.out).mono ?_); (case side1 => exact zah32); (case side2 => exact (Kd.R_reads' HO783.out).2.1); (case side3 => exact zah33); (case side4 => exact (Kd.R_reads' HO771.out).2.1); rintro e w' ⟨rfl, ⟨nd, rfl⟩⟩; refine ⟨_, rfl, ?_⟩))
   go_meet
   case rel => exact ⟨_, ((t784 != t772)), zah24, H', ⟨by first | omega | exact Nat.le_refl _⟩, ⟨zah39⟩, ⟨zah37⟩, ⟨zah38⟩, ⟨zah2⟩, ⟨zah4⟩, ⟨zah7⟩, ⟨zah1⟩⟩
  replace c40 := Bool.eq_false_iff.mpr c40
  subst c40
  have H1 : (laws_FnExactDistancesFrom.j0 k a2 t769 t772 t781 t784 true a0_0 a0_1 l0_2 a1_0 a1_1 t773 t774 t775) = some r := by rw [if_neg (show ¬ (false = true) by decide)] at H; exact H
  clear H
  have H := H1
  clear H1
  have H' := Aside0.mk H
  clear H
  obtain ⟨Ao43, co43, eo43⟩ := Kd.R_slice HO783.out
  subst eo43
  obtain ⟨Ao44, co44, eo44⟩ := Kd.R_slice HO771.out
  subst eo44
  go_wp2_with (first | ((with_reducible refine gate_callee (f := 22) rfl ?_); refine goesL_ (some 44) rfl rfl Try.func22 (by kernel_rfl) rfl #[.slice Ao43 t781.length co43, .slice Ao44 t769.length co44] rfl zah3 ?_; (with_reducible refine (laws_eqIntS.calls k _ _ t781 _ _ t769 false _ ?side1 ?side2 ?side3 ?side4 A39.out).mono ?_); (case side1 => exact zah32); (case side2 => exact (Kd.R_reads' HO783.out).2.1); (case side3 => exact zah33); (case side4 => exact (Kd.R_reads' HO771.out).2.1); rintro e w' ⟨rfl, ⟨nd, rfl⟩⟩; refine ⟨_, rfl, ?_⟩))
  go_meet
  case rel => exact ⟨_, (true), zah24, H', ⟨by first | omega | exact Nat.le_refl _⟩, ⟨zah39⟩, ⟨zah37⟩, ⟨zah38⟩, ⟨zah2⟩, ⟨zah4⟩, ⟨zah7⟩, ⟨zah1⟩⟩
 case rest =>
  clear HC17
  try clear c1; try clear c2; try clear p2; try clear c3; try clear c4; try clear c5; try clear c5b0; try clear c8; try clear c15; try clear c17; try clear c18; try clear c20; try clear c22; try clear c31; try clear c32; try clear c34; try clear c35; try clear c40; try clear hcz21_0; try clear hcz21_1; try clear hcz21_2; try clear hcz28_0; try clear hcz28_1; try clear hcz28_2; try clear hcz33_0; try clear hcz33_1; try clear hcz33_2; try clear hcz9_0; try clear hcz9_1; try clear hcz9_2; try clear hfz21_0; try clear hfz21_1; try clear hfz21_2; try clear hfz28_0; try clear hfz28_1; try clear hfz28_2
  try clear hfz33_0; try clear hfz33_1; try clear hfz33_2; try clear hfz9_0; try clear hfz9_1; try clear hfz9_2
  obtain ⟨kq, x50_16, rfl, HA, HJ16, HO_8, HO_11, HO_779002, BK759, BK760, BK778, HB⟩ := hcut
  cases kq with
  | zero => exact absurd HA.out (by simp [laws_FnExactDistancesFrom.j0])
  | succ kj16 =>
   have H := HA.out
   clear HA
   simp only [laws_FnExactDistancesFrom.j0] at H
   by_cases c45 : x50_16 = true
   ·subst c45
    have H1 : (some false) = some r := by rw [if_pos rfl] at H; exact H
    clear H
    have H := H1
    clear H1
    obtain rfl := Option.some.inj H
    go_wp2
    go_ret
    exact ⟨zah13, zah1⟩
   replace c45 := Bool.eq_false_iff.mpr c45
   subst c45
   have H1 : ((laws_toBoard.f kj16 a0_0 a0_1 l0_2).bind fun bt786 => ((laws_eqBoard.f kj16 t773 t774 t775 bt786.1 bt786.2.1 bt786.2.2).bind fun t791 => (if t791 = true then ((laws_markBoard.f kj16 t773 t774 t775 1).bind fun bt792 => (if bt792.1 < 0 then (laws_FnExactDistancesFrom.j1 kj16 a2 t769 t772 t781 true a0_0 a0_1 l0_2 a1_0 a1_1) else ((laws_eqIntS.f kj16 t781 t769).bind fun t794 => (if t794 = true then (laws_FnExactDistancesFrom.j1 kj16 a2 t769 t772 t781 (t784 != t772) a0_0 a0_1 l0_2 a1_0 a1_1) else (laws_FnExactDistancesFrom.j1 kj16 a2 t769 t772 t781 true a0_0 a0_1 l0_2 a1_0 a1_1))))) else (some false)))) = some r := by rw [if_neg (show ¬ (false = true) by decide)] at H; exact H
   clear H
   have H := H1
   clear H1
   replace H := Option.bind_eq_some_iff.mp H
   obtain ⟨⟨t786, t787, t788⟩, A460, H⟩ := H
   replace H : ((laws_eqBoard.f kj16 t773 t774 t775 t786 t787 t788).bind fun t791 => (if t791 = true then ((laws_markBoard.f kj16 t773 t774 t775 1).bind fun bt792 => (if bt792.1 < 0 then (laws_FnExactDistancesFrom.j1 kj16 a2 t769 t772 t781 true a0_0 a0_1 l0_2 a1_0 a1_1) else ((laws_eqIntS.f kj16 t781 t769).bind fun t794 => (if t794 = true then (laws_FnExactDistancesFrom.j1 kj16 a2 t769 t772 t781 (t784 != t772) a0_0 a0_1 l0_2 a1_0 a1_1) else (laws_FnExactDistancesFrom.j1 kj16 a2 t769 t772 t781 true a0_0 a0_1 l0_2 a1_0 a1_1))))) else (some false))) = some r := H
   have A46 := Aside0.mk A460
   clear A460
   replace H := Option.bind_eq_some_iff.mp H
   obtain ⟨t791, A470, H⟩ := H
   replace H : (if t791 = true then ((laws_markBoard.f kj16 t773 t774 t775 1).bind fun bt792 => (if bt792.1 < 0 then (laws_FnExactDistancesFrom.j1 kj16 a2 t769 t772 t781 true a0_0 a0_1 l0_2 a1_0 a1_1) else ((laws_eqIntS.f kj16 t781 t769).bind fun t794 => (if t794 = true then (laws_FnExactDistancesFrom.j1 kj16 a2 t769 t772 t781 (t784 != t772) a0_0 a0_1 l0_2 a1_0 a1_1) else (laws_FnExactDistancesFrom.j1 kj16 a2 t769 t772 t781 true a0_0 a0_1 l0_2 a1_0 a1_1))))) else (some false)) = some r := H
   have A47 := Aside0.mk A470
   clear A470
   by_cases c48 : t791 = true
   rotate_left
   ·replace c48 := Bool.eq_false_iff.mpr c48
    subst c48
    have H1 : (some false) = some r := by rw [if_neg (show ¬ (false = true) by decide)] at H; exact H
    clear H
    have H := H1
    clear H1
    obtain rfl := Option.some.inj H
    try go_wp2
    have n0_ := Aside0.mk (Kd.R_drew HO_8.out)
    have n1_ := Aside0.mk (Kd.R_drew HO_11.out)
    have n2_ := Aside0.mk (Kd.R_drew HO_779002.out)
    have n3_ := Aside0.mk (blk_drew BK759.out)
    have n4_ := Aside0.mk (blk_drew BK760.out)
    have n5_ := Aside0.mk (blk_drew BK778.out)
    have n6_ := Aside0.mk (below_drew1 HB.out)
    clear HO_8
    clear HO_11
    clear HO_779002
    clear BK759
    clear BK760
    clear BK778
    clear HB
    have HO_8 := n0_
    have HO_11 := n1_
    have HO_779002 := n2_
    have BK759 := n3_
    have BK760 := n4_
    have BK778 := n5_
    have HB := n6_
    clear n0_ n1_ n2_ n3_ n4_ n5_ n6_
    refine start_ (n := 5) (S := fun w' => w'.cell? ⟨gb778, 0, none⟩ = some (.int .i64 t773) ∧ w'.cell? ⟨gb778, 1, none⟩ = some (.int .i64 t774) ∧ w'.cell? ⟨gb778, 2, none⟩ = some (.slice Ao34 t775.length co34) ∧ w'.cell? ⟨gb759, 0, none⟩ = some (.int .i64 a0_0) ∧ w'.cell? ⟨gb759, 1, none⟩ = some (.int .i64 a0_1) ∧ w'.cell? ⟨gb759, 2, none⟩ = some (.slice A0_2 l0_2.length c0_2)) (ds := []) #[false, false, false, false, false] (by kernel_rfl) rfl rfl ⟨(blk_cell BK778.out 0).trans rfl, (blk_cell BK778.out 1).trans rfl, (blk_cell BK778.out 2).trans rfl, (blk_cell BK759.out 0).trans rfl, (blk_cell BK759.out 1).trans rfl, (blk_cell BK759.out 2).trans rfl⟩ (fun hHeld => ?_)
    generalize wc.drew = w96 at HO_8 HO_11 HO_779002 BK759 BK760 BK778 HB hHeld ⊢
    refine take_ (i := 0) (N := some 51) (v := ?_) (a' := ?_) #[true, false, false, false, false] rfl rfl (by kernel_rfl) (fun _ _ _ h => h) (Or.inl ⟨by rfl, ?_⟩) hHeld ?_ ?_
    rotate_left
    ·rintro w' ⟨s0, s1, s2, s3, s4, s5⟩
     go_simp
     with_reducible rfl
    rotate_left
    ·simp only [Act.put, List.setIfInBounds_toArray, List.set_cons_zero, List.set_cons_succ, i64_w, i32_w]
     rfl
    refine take_ (i := 1) (N := some 52) (v := ?_) (a' := ?_) #[true, true, false, false, false] rfl rfl (by kernel_rfl) (fun _ _ _ h => h) (Or.inl ⟨by rfl, ?_⟩) hHeld ?_ ?_
    rotate_left
    ·rintro w' ⟨s0, s1, s2, s3, s4, s5⟩
     go_simp
     with_reducible rfl
    rotate_left
    ·simp only [Act.put, List.setIfInBounds_toArray, List.set_cons_zero, List.set_cons_succ, i64_w, i32_w]
     rfl
    refine one_ (i := 2) (N := some 53) #[true, true, true, false, false] rfl rfl (by kernel_rfl) (by decide) (fun K hK => ?_)
    refine goes_ Try.func17 (by kernel_rfl) rfl #[.agg #[.int .i64 a0_0, .int .i64 a0_1, .slice A0_2 l0_2.length c0_2]] (by rfl) rfl rfl zah3 ?_
    with_reducible refine (laws_toBoard.calls kj16 a0_0 a0_1 _ _ l0_2 t786 t787 t788 _ ?side1 ?side2 A46.out).mono ?_
    (case side1 => exact zah12)
    (case side2 => exact HC0_2.out)
    rintro e w97 ⟨v789, rfl, ho0, hb⟩
    refine ⟨_, rfl, ?_⟩
    have n0_ := Aside0.mk (Kd.R_elder' zah11 (Kd.R_base ho0) hb)
    have n1_ := Aside0.mk (Kd.R_elder' zah10 (Kd.R_base ho0) hb)
    have n2_ := Aside0.mk (Kd.R_elder' zah8 (Kd.R_base ho0) hb)
    have n3_ := Aside0.mk (Kd.R_lower (Kd.R_new' (Kd.R_new' (Kd.R_new' ho0 (Kd.R_lt zah11)) (Kd.R_lt zah10)) (Kd.R_lt zah8)) (below_size zah1))
    have n4_ := Aside0.mk (blk_below (g := gb759) (o := .cells #[.int .i64 a0_0, .int .i64 a0_1, .slice A0_2 l0_2.length c0_2] 24 (0, 0)) zah2 hb)
    have n5_ := Aside0.mk (blk_below (g := gb760) (o := .cells #[.int .i64 a1_0, .int .i64 a1_1] 26 (0, 0)) zah4 hb)
    have n6_ := Aside0.mk (blk_below (g := gb778) (o := .cells #[.int .i64 t773, .int .i64 t774, .slice Ao34 t775.length co34] 30 (0, 0)) zah7 hb)
    have n7_ := Aside0.mk (below_step zah1 hb)
    clear HO_8
    clear HO_11
    clear HO_779002
    clear BK759
    clear BK760
    clear BK778
    clear HB
    have HO_8 := n0_
    have HO_11 := n1_
    have HO_779002 := n2_
    have HO790 := n3_
    have BK759 := n4_
    have BK760 := n5_
    have BK778 := n6_
    have HB := n7_
    clear n0_ n1_ n2_ n3_ n4_ n5_ n6_ n7_
    (try clear hb)
    (try clear hb2)
    (try clear hk)
    (try clear hi)
    (try clear ho0)
    (try clear hna_)
    (try clear hnb_)
    obtain ⟨Ao98, co98, eo98⟩ := Kd.R_slice HO790.out
    (first | subst eo98 | (injection eo98 with f1_ f2_ f3_; have f4_ := f1_.symm; have f5_ := f3_.symm; clear f1_ f2_ f3_; subst f4_; subst f5_))
    refine hK.out _ _ ⟨(blk_cell BK778.out 0).trans rfl, (blk_cell BK778.out 1).trans rfl, (blk_cell BK778.out 2).trans rfl, (blk_cell BK759.out 0).trans rfl, (blk_cell BK759.out 1).trans rfl, (blk_cell BK759.out 2).trans rfl⟩ (fun hHeld => ?_)
    clear hK K
    refine norm_ (a' := ?_) ?_ ?_
    rotate_left
    ·show Act.put _ (some 53) _ = _
     simp only [Act.put, List.setIfInBounds_toArray, List.set_cons_zero, List.set_cons_succ, i64_w, i32_w]
     rfl
    refine one_ (i := 3) (N := some 54) #[true, true, true, true, false] rfl rfl (by kernel_rfl) (by decide) (fun K hK => ?_)
    refine goes_ Try.func21 (by kernel_rfl) rfl #[.agg #[.int .i64 t773, .int .i64 t774, .slice Ao34 t775.length co34], .agg #[.int .i64 t786, .int .i64 t787, .slice Ao98 t788.length co98]] (by rfl) rfl rfl zah3 ?_
    with_reducible refine (laws_eqBoard.calls kj16 t773 t774 _ _ t775 t786 t787 _ _ t788 false _ ?side1 ?side2 ?side3 ?side4 A47.out).mono ?_
    (case side1 => exact zah29)
    (case side2 => exact (Kd.R_reads' HO_779002.out).2.1)
    (case side3 => exact zah31)
    (case side4 => exact (Kd.R_reads' HO790.out).2.1)
    rintro e w99 ⟨rfl, hb⟩
    refine ⟨_, rfl, ?_⟩
    have n0_ := Aside0.mk (Kd.R_below zah11 hb)
    have n1_ := Aside0.mk (Kd.R_below zah10 hb)
    have n2_ := Aside0.mk (Kd.R_below zah8 hb)
    have n3_ := Aside0.mk (Kd.R_below (by (with_reducible repeat (first | apply Kd.R_alloc | apply Kd.R_drewN | apply Kd.R_drew)); exact HO790.out) hb)
    have n4_ := Aside0.mk (blk_below (g := gb759) (o := .cells #[.int .i64 a0_0, .int .i64 a0_1, .slice A0_2 l0_2.length c0_2] 24 (0, 0)) zah2 hb)
    have n5_ := Aside0.mk (blk_below (g := gb760) (o := .cells #[.int .i64 a1_0, .int .i64 a1_1] 26 (0, 0)) zah4 hb)
    have n6_ := Aside0.mk (blk_below (g := gb778) (o := .cells #[.int .i64 t773, .int .i64 t774, .slice Ao34 t775.length co34] 30 (0, 0)) zah7 hb)
    have n7_ := Aside0.mk (below_step zah1 hb)
    clear HO_8
    clear HO_11
    clear HO_779002
    clear HO790
    clear BK759
    clear BK760
    clear BK778
    clear HB
    have HO_8 := n0_
    have HO_11 := n1_
    have HO_779002 := n2_
    have HO790 := n3_
    have BK759 := n4_
    have BK760 := n5_
    have BK778 := n6_
    have HB := n7_
    clear n0_ n1_ n2_ n3_ n4_ n5_ n6_ n7_
    (try clear hb)
    (try clear hb2)
    (try clear hk)
    (try clear hi)
    (try clear hna_)
    (try clear hnb_)
    refine hK.out _ _ ⟨(blk_cell BK778.out 0).trans rfl, (blk_cell BK778.out 1).trans rfl, (blk_cell BK778.out 2).trans rfl, (blk_cell BK759.out 0).trans rfl, (blk_cell BK759.out 1).trans rfl, (blk_cell BK759.out 2).trans rfl⟩ (fun hHeld => ?_)
    clear hK K
    refine norm_ (a' := ?_) ?_ ?_
    rotate_left
    ·show Act.put _ (some 54) _ = _
     simp only [Act.put, List.setIfInBounds_toArray, List.set_cons_zero, List.set_cons_succ, i64_w, i32_w]
     rfl
    refine pure_ (i := 4) (N := some 55) (v := ?_) (a' := ?_) #[true, true, true, true, true] rfl rfl (by kernel_rfl) (fun _ _ _ h => h) (Or.inl ⟨by rfl, ?_⟩) ?_ ?_
    rotate_left
    ·intro w'
     go_simp
     with_reducible rfl
    rotate_left
    ·simp only [Act.put, List.setIfInBounds_toArray, List.set_cons_zero, List.set_cons_succ, i64_w, i32_w]
     rfl
    refine done_ (by kernel_rfl) ?_
    try go_wp2
    go_ret
    exact ⟨zah13, zah1⟩
   subst c48
   have H1 : ((laws_markBoard.f kj16 t773 t774 t775 1).bind fun bt792 => (if bt792.1 < 0 then (laws_FnExactDistancesFrom.j1 kj16 a2 t769 t772 t781 true a0_0 a0_1 l0_2 a1_0 a1_1) else ((laws_eqIntS.f kj16 t781 t769).bind fun t794 => (if t794 = true then (laws_FnExactDistancesFrom.j1 kj16 a2 t769 t772 t781 (t784 != t772) a0_0 a0_1 l0_2 a1_0 a1_1) else (laws_FnExactDistancesFrom.j1 kj16 a2 t769 t772 t781 true a0_0 a0_1 l0_2 a1_0 a1_1))))) = some r := by rw [if_pos rfl] at H; exact H
   clear H
   have H := H1
   clear H1
   replace H := Option.bind_eq_some_iff.mp H
   obtain ⟨⟨t792, t793⟩, A490, H⟩ := H
   replace H : (if t792 < 0 then (laws_FnExactDistancesFrom.j1 kj16 a2 t769 t772 t781 true a0_0 a0_1 l0_2 a1_0 a1_1) else ((laws_eqIntS.f kj16 t781 t769).bind fun t794 => (if t794 = true then (laws_FnExactDistancesFrom.j1 kj16 a2 t769 t772 t781 (t784 != t772) a0_0 a0_1 l0_2 a1_0 a1_1) else (laws_FnExactDistancesFrom.j1 kj16 a2 t769 t772 t781 true a0_0 a0_1 l0_2 a1_0 a1_1)))) = some r := H
   have A49 := Aside0.mk A490
   clear A490
   have HC50 := Aside0.mk H
   clear H
   try go_wp2
   have n0_ := Aside0.mk (Kd.R_drew HO_8.out)
   have n1_ := Aside0.mk (Kd.R_drew HO_11.out)
   have n2_ := Aside0.mk (Kd.R_drew HO_779002.out)
   have n3_ := Aside0.mk (blk_drew BK759.out)
   have n4_ := Aside0.mk (blk_drew BK760.out)
   have n5_ := Aside0.mk (blk_drew BK778.out)
   have n6_ := Aside0.mk (below_drew1 HB.out)
   clear HO_8
   clear HO_11
   clear HO_779002
   clear BK759
   clear BK760
   clear BK778
   clear HB
   have HO_8 := n0_
   have HO_11 := n1_
   have HO_779002 := n2_
   have BK759 := n3_
   have BK760 := n4_
   have BK778 := n5_
   have HB := n6_
   clear n0_ n1_ n2_ n3_ n4_ n5_ n6_
   refine start_ (n := 5) (S := fun w' => w'.cell? ⟨gb778, 0, none⟩ = some (.int .i64 t773) ∧ w'.cell? ⟨gb778, 1, none⟩ = some (.int .i64 t774) ∧ w'.cell? ⟨gb778, 2, none⟩ = some (.slice Ao34 t775.length co34) ∧ w'.cell? ⟨gb759, 0, none⟩ = some (.int .i64 a0_0) ∧ w'.cell? ⟨gb759, 1, none⟩ = some (.int .i64 a0_1) ∧ w'.cell? ⟨gb759, 2, none⟩ = some (.slice A0_2 l0_2.length c0_2)) (ds := []) #[false, false, false, false, false] (by kernel_rfl) rfl rfl ⟨(blk_cell BK778.out 0).trans rfl, (blk_cell BK778.out 1).trans rfl, (blk_cell BK778.out 2).trans rfl, (blk_cell BK759.out 0).trans rfl, (blk_cell BK759.out 1).trans rfl, (blk_cell BK759.out 2).trans rfl⟩ (fun hHeld => ?_)
   generalize wc.drew = w51 at HO_8 HO_11 HO_779002 BK759 BK760 BK778 HB hHeld ⊢
   refine take_ (i := 0) (N := some 51) (v := ?_) (a' := ?_) #[true, false, false, false, false] rfl rfl (by kernel_rfl) (fun _ _ _ h => h) (Or.inl ⟨by rfl, ?_⟩) hHeld ?_ ?_
   rotate_left
   ·rintro w' ⟨s0, s1, s2, s3, s4, s5⟩
    go_simp
    with_reducible rfl
   rotate_left
   ·simp only [Act.put, List.setIfInBounds_toArray, List.set_cons_zero, List.set_cons_succ, i64_w, i32_w]
    rfl
   refine take_ (i := 1) (N := some 52) (v := ?_) (a' := ?_) #[true, true, false, false, false] rfl rfl (by kernel_rfl) (fun _ _ _ h => h) (Or.inl ⟨by rfl, ?_⟩) hHeld ?_ ?_
   rotate_left
   ·rintro w' ⟨s0, s1, s2, s3, s4, s5⟩
    go_simp
    with_reducible rfl
   rotate_left
   ·simp only [Act.put, List.setIfInBounds_toArray, List.set_cons_zero, List.set_cons_succ, i64_w, i32_w]
    rfl
   refine one_ (i := 2) (N := some 53) #[true, true, true, false, false] rfl rfl (by kernel_rfl) (by decide) (fun K hK => ?_)
   refine goes_ Try.func17 (by kernel_rfl) rfl #[.agg #[.int .i64 a0_0, .int .i64 a0_1, .slice A0_2 l0_2.length c0_2]] (by rfl) rfl rfl zah3 ?_
   with_reducible refine (laws_toBoard.calls kj16 a0_0 a0_1 _ _ l0_2 t786 t787 t788 _ ?side1 ?side2 A46.out).mono ?_
   (case side1 => exact zah12)
   (case side2 => exact HC0_2.out)
   rintro e w52 ⟨v789, rfl, ho0, hb⟩
   refine ⟨_, rfl, ?_⟩
   have n0_ := Aside0.mk (Kd.R_elder' zah11 (Kd.R_base ho0) hb)
   have n1_ := Aside0.mk (Kd.R_elder' zah10 (Kd.R_base ho0) hb)
   have n2_ := Aside0.mk (Kd.R_elder' zah8 (Kd.R_base ho0) hb)
   have n3_ := Aside0.mk (Kd.R_lower (Kd.R_new' (Kd.R_new' (Kd.R_new' ho0 (Kd.R_lt zah11)) (Kd.R_lt zah10)) (Kd.R_lt zah8)) (below_size zah1))
   have n4_ := Aside0.mk (blk_below (g := gb759) (o := .cells #[.int .i64 a0_0, .int .i64 a0_1, .slice A0_2 l0_2.length c0_2] 24 (0, 0)) zah2 hb)
   have n5_ := Aside0.mk (blk_below (g := gb760) (o := .cells #[.int .i64 a1_0, .int .i64 a1_1] 26 (0, 0)) zah4 hb)
   have n6_ := Aside0.mk (blk_below (g := gb778) (o := .cells #[.int .i64 t773, .int .i64 t774, .slice Ao34 t775.length co34] 30 (0, 0)) zah7 hb)
   have n7_ := Aside0.mk (below_step zah1 hb)
   clear HO_8
   clear HO_11
   clear HO_779002
   clear BK759
   clear BK760
   clear BK778
   clear HB
   have HO_8 := n0_
   have HO_11 := n1_
   have HO_779002 := n2_
   have HO790 := n3_
   have BK759 := n4_
   have BK760 := n5_
   have BK778 := n6_
   have HB := n7_
   clear n0_ n1_ n2_ n3_ n4_ n5_ n6_ n7_
   (try clear hb)
   (try clear hb2)
   (try clear hk)
   (try clear hi)
   (try clear ho0)
   (try clear hna_)
   (try clear hnb_)
   obtain ⟨Ao53, co53, eo53⟩ := Kd.R_slice HO790.out
   (first | subst eo53 | (injection eo53 with f1_ f2_ f3_; have f4_ := f1_.symm; have f5_ := f3_.symm; clear f1_ f2_ f3_; subst f4_; subst f5_))
   refine hK.out _ _ ⟨(blk_cell BK778.out 0).trans rfl, (blk_cell BK778.out 1).trans rfl, (blk_cell BK778.out 2).trans rfl, (blk_cell BK759.out 0).trans rfl, (blk_cell BK759.out 1).trans rfl, (blk_cell BK759.out 2).trans rfl⟩ (fun hHeld => ?_)
   clear hK K
   refine norm_ (a' := ?_) ?_ ?_
   rotate_left
   ·show Act.put _ (some 53) _ = _
    simp only [Act.put, List.setIfInBounds_toArray, List.set_cons_zero, List.set_cons_succ, i64_w, i32_w]
    rfl
   refine one_ (i := 3) (N := some 54) #[true, true, true, true, false] rfl rfl (by kernel_rfl) (by decide) (fun K hK => ?_)
   refine goes_ Try.func21 (by kernel_rfl) rfl #[.agg #[.int .i64 t773, .int .i64 t774, .slice Ao34 t775.length co34], .agg #[.int .i64 t786, .int .i64 t787, .slice Ao53 t788.length co53]] (by rfl) rfl rfl zah3 ?_
   with_reducible refine (laws_eqBoard.calls kj16 t773 t774 _ _ t775 t786 t787 _ _ t788 true _ ?side1 ?side2 ?side3 ?side4 A47.out).mono ?_
   (case side1 => exact zah29)
   (case side2 => exact (Kd.R_reads' HO_779002.out).2.1)
   (case side3 => exact zah31)
   (case side4 => exact (Kd.R_reads' HO790.out).2.1)
   rintro e w54 ⟨rfl, hb⟩
   refine ⟨_, rfl, ?_⟩
   have n0_ := Aside0.mk (Kd.R_below zah11 hb)
   have n1_ := Aside0.mk (Kd.R_below zah10 hb)
   have n2_ := Aside0.mk (Kd.R_below zah8 hb)
   have n3_ := Aside0.mk (Kd.R_below (by (with_reducible repeat (first | apply Kd.R_alloc | apply Kd.R_drewN | apply Kd.R_drew)); exact HO790.out) hb)
   have n4_ := Aside0.mk (blk_below (g := gb759) (o := .cells #[.int .i64 a0_0, .int .i64 a0_1, .slice A0_2 l0_2.length c0_2] 24 (0, 0)) zah2 hb)
   have n5_ := Aside0.mk (blk_below (g := gb760) (o := .cells #[.int .i64 a1_0, .int .i64 a1_1] 26 (0, 0)) zah4 hb)
   have n6_ := Aside0.mk (blk_below (g := gb778) (o := .cells #[.int .i64 t773, .int .i64 t774, .slice Ao34 t775.length co34] 30 (0, 0)) zah7 hb)
   have n7_ := Aside0.mk (below_step zah1 hb)
   clear HO_8
   clear HO_11
   clear HO_779002
   clear HO790
   clear BK759
   clear BK760
   clear BK778
   clear HB
   have HO_8 := n0_
   have HO_11 := n1_
   have HO_779002 := n2_
   have HO790 := n3_
   have BK759 := n4_
   have BK760 := n5_
   have BK778 := n6_
   have HB := n7_
   clear n0_ n1_ n2_ n3_ n4_ n5_ n6_ n7_
   (try clear hb)
   (try clear hb2)
   (try clear hk)
   (try clear hi)
   (try clear hna_)
   (try clear hnb_)
   refine hK.out _ _ ⟨(blk_cell BK778.out 0).trans rfl, (blk_cell BK778.out 1).trans rfl, (blk_cell BK778.out 2).trans rfl, (blk_cell BK759.out 0).trans rfl, (blk_cell BK759.out 1).trans rfl, (blk_cell BK759.out 2).trans rfl⟩ (fun hHeld => ?_)
   clear hK K
   refine norm_ (a' := ?_) ?_ ?_
   rotate_left
   ·show Act.put _ (some 54) _ = _
    simp only [Act.put, List.setIfInBounds_toArray, List.set_cons_zero, List.set_cons_succ, i64_w, i32_w]
    rfl
   refine pure_ (i := 4) (N := some 55) (v := ?_) (a' := ?_) #[true, true, true, true, true] rfl rfl (by kernel_rfl) (fun _ _ _ h => h) (Or.inl ⟨by rfl, ?_⟩) ?_ ?_
   rotate_left
   ·intro w'
    go_simp
    with_reducible rfl
   rotate_left
   ·simp only [Act.put, List.setIfInBounds_toArray, List.set_cons_zero, List.set_cons_succ, i64_w, i32_w]
    rfl
   refine done_ (by kernel_rfl) ?_
   have hnb55 := NB778_759.out
   have hnc55 := NB759_778.out
   have hnb56 := NB778_760.out
   have hnc56 := NB760_778.out
   have hcz57_0 : w54.cell? ⟨gb778, 0, none⟩ = some (.int .i64 t773) := (blk_cell BK778.out 0).trans rfl
   have hcz57_1 : w54.cell? ⟨gb778, 1, none⟩ = some (.int .i64 t774) := (blk_cell BK778.out 1).trans rfl
   have hcz57_2 : w54.cell? ⟨gb778, 2, none⟩ = some (.slice Ao34 t775.length co34) := (blk_cell BK778.out 2).trans rfl
   have hfz57_0 := blk_frozen BK778.out 0
   have hfz57_1 := blk_frozen BK778.out 1
   have hfz57_2 := blk_frozen BK778.out 2
   go_upto_region 14 with (first | ((with_reducible refine gate_callee (f := 31) rfl ?_); refine goesL_ (some 58) rfl rfl Try.func31 (by kernel_rfl) rfl #[.agg #[.int .i64 t773, .int .i64 t774, .slice Ao34 t775.length co34], .int .i64 1] rfl zah3 ?_; (with_reducible refine (laws_markBoard.calls kj16 t773 t774 (fun k_ => some k_ = (.slice Ao34 t775.length co34 : Value).ownBlock) (.slice Ao34 t775.length co34) t775 1 t792 t793 w _ ?side1 ?side2 A49.out).mono ?_); (case side1 => exact zah1); (case side2 => exact Kd.R_tight rfl HO_779002.out); rintro e w58 ⟨rfl, hy0, hb, hkp⟩; refine ⟨_, rfl, ?_⟩; have n0_ := Aside0.mk (Kd.R_mono (ok' := fun k_ => some k_ ≠ (v782 : Value).ownBlock ∧ some k_ ≠ (.slice Ao34 t775.length co34 : Value).ownBlock ∧ some k_ ≠ (.slice Ao53 t788.length co53 : Value).ownBlock) (Kd.R_keptB (HO_8.out) hkp (fun k_ hk_ hs_ => (hk_.1.2) hs_)) (fun k_ hk_ => ⟨hk_.1.1.1, hk_.1.1.2, hk_.1.2⟩)); have n1_ := Aside0.mk (Kd.R_mono (ok' := fun k_ => some k_ ≠ (v770 : Value).ownBlock ∧ some k_ ≠ (.slice Ao34 t775.length co34 : Value).ownBlock ∧ some k_ ≠ (.slice Ao53 t788.length co53 : Value).ownBlock) (Kd.R_keptB (HO_11.out) hkp (fun k_ hk_ hs_ => (hk_.1.2) hs_)) (fun k_ hk_ => ⟨hk_.1.1.1, hk_.1.1.2, hk_.1.2⟩)); have n2_ := Aside0.mk (Kd.R_reok rfl hy0 (fun k_ e_ => HO_779002.out.1 k_ e_)); have n3_ := Aside0.mk (blk_kept zah2 hkp (fun hs_ => (fun e_ => (Kd.R_ne HO_779002.out BK759.out (by decide)) e_) hs_)); have n4_ := Aside0.mk (blk_kept zah4 hkp (fun hs_ => (fun e_ => (Kd.R_ne HO_779002.out BK760.out (by decide)) e_) hs_)); have n5_ := Aside0.mk (blk_kept zah7 hkp (fun hs_ => (fun e_ => (Kd.R_ne HO_779002.out BK778.out (by decide)) e_) hs_)); have n6_ := Aside0.mk (Kd.R_mono (ok' := fun k_ => some k_ ≠ (v770 : Value).ownBlock ∧ some k_ ≠ (v782 : Value).ownBlock ∧ some k_ ≠ (.slice Ao34 t775.length co34 : Value).ownBlock) (Kd.R_keptB (HO790.out) hkp (fun k_ hk_ hs_ => (hk_.2) hs_)) (fun k_ hk_ => ⟨hk_.1.1.1.2, hk_.1.1.2, hk_.1.2⟩)); have n7_ := Aside0.mk (hb); clear HO_8; clear HO_11; clear HO_779002; clear BK759; clear BK760; clear BK778; clear HO790; clear HB; have HO_8 := n0_; have HO_11 := n1_; have HO_779002 := n2_; have BK759 := n3_; have BK760 := n4_; have BK778 := n5_; have HO790 := n6_; have HB := n7_; clear n0_ n1_ n2_ n3_ n4_ n5_ n6_ n7_; (try clear hb); (try clear hkp); (try clear hy0)))
   (try simp only [Act.put, List.setIfInBounds_toArray, List.set_cons_zero, List.set_cons_succ])
   go_cut [71] (fun v71 wc => ∃ (kq : Nat) (x71_49 : Bool), v71 = .bool x71_49 ∧ Aside0 (laws_FnExactDistancesFrom.j1 kq a2 t769 t772 t781 x71_49 a0_0 a0_1 l0_2 a1_0 a1_1 = some r) ∧ Aside0 (kq ≤ kj16) ∧ Aside0 (Kd.R (Kd.int .i64) 3 wc w.heap.size (fun k_ => some k_ ≠ (v782 : Value).ownBlock ∧ some k_ ≠ ((.slice Ao34 t775.length co34) : Value).ownBlock) v770 t769) ∧ Aside0 (Kd.R (Kd.int .i64) 3 wc w.heap.size (fun k_ => some k_ ≠ (v770 : Value).ownBlock ∧ some k_ ≠ ((.slice Ao34 t775.length co34) : Value).ownBlock) v782 t781) ∧ Aside0 (Kd.R (Kd.int .i64) 3 wc w.heap.size (fun k_ => some k_ ≠ (v770 : Value).ownBlock ∧ some k_ ≠ (v782 : Value).ownBlock) (.slice Ao34 t775.length co34) t793) ∧ Aside0 (wc.heap[gb759]? = some (.cells #[.int .i64 a0_0, .int .i64 a0_1, (.slice A0_2 l0_2.length c0_2)] 24 (0, 0))) ∧ Aside0 (wc.heap[gb760]? = some (.cells #[.int .i64 a1_0, .int .i64 a1_1] 26 (0, 0))) ∧ Aside0 (wc.heap[gb778]? = some (.cells #[.int .i64 t773, .int .i64 t774, (.slice Ao34 t775.length co34)] 30 (0, 0))) ∧ Aside0 (Below w.heap.size w wc))
   case first =>
    have H := HC50.out
    clear HC50
    by_cases c59 : t792 < 0
    ·rw [if_pos c59] at H
     have c59b0 : decide (t792 < 0) = true := decide_eq_true c59
     clear c59
     (first | rw [c59b0] | (simp only [i64_w, i32_w]; rw [c59b0]) | skip)
     have H' := Aside0.mk H
     clear H
     go_wp2
     go_meet
     case rel => exact ⟨_, (true), zah24, H', ⟨by have := HJ16.out; first | omega | exact Nat.le_refl _⟩, ⟨zah23⟩, ⟨zah22⟩, ⟨zah21⟩, ⟨zah2⟩, ⟨zah4⟩, ⟨zah7⟩, ⟨zah1⟩⟩
    rw [if_neg c59] at H
    have c59b0 : decide (t792 < 0) = false := decide_eq_false c59
    clear c59
    (first | rw [c59b0] | (simp only [i64_w, i32_w]; rw [c59b0]) | skip)
    replace H := Option.bind_eq_some_iff.mp H
    obtain ⟨t794, A600, H⟩ := H
    replace H : (if t794 = true then (laws_FnExactDistancesFrom.j1 kj16 a2 t769 t772 t781 (t784 != t772) a0_0 a0_1 l0_2 a1_0 a1_1) else (laws_FnExactDistancesFrom.j1 kj16 a2 t769 t772 t781 true a0_0 a0_1 l0_2 a1_0 a1_1)) = some r := H
    have A60 := Aside0.mk A600
    clear A600
    by_cases c61 : t794 = true
    ·subst c61
     have H1 : (laws_FnExactDistancesFrom.j1 kj16 a2 t769 t772 t781 (t784 != t772) a0_0 a0_1 l0_2 a1_0 a1_1) = some r := by rw [if_pos rfl] at H; exact H
     clear H
     have H := H1
     clear H1
     have H' := Aside0.mk H
     clear H
     obtain ⟨Ao62, co62, eo62⟩ := Kd.R_slice HO_11.out
     subst eo62
     obtain ⟨Ao63, co63, eo63⟩ := Kd.R_slice HO_8.out
     subst eo63
     go_wp2_with (first | (go_at_call 22; (with_reducible refine (laws_eqIntS.calls kj16 _ _ t781 _ _ t769 true _ ?side1 ?side2 ?side3 ?side4 A60.out).mono ?_); (case side1 => exact zah9); (case side2 => exact (Kd.R_reads' HO_11.out).2.1); (case side3 => exact zah18); (case side4 => exact (Kd.R_reads' HO_8.out).2.1); rintro e w' ⟨rfl, ⟨nd, rfl⟩⟩))
     go_meet
     case rel => exact ⟨_, ((t784 != t772)), zah24, H', ⟨by have := HJ16.out; first | omega | exact Nat.le_refl _⟩, ⟨zah23⟩, ⟨zah22⟩, ⟨zah21⟩, ⟨zah2⟩, ⟨zah4⟩, ⟨zah7⟩, ⟨zah1⟩⟩
    replace c61 := Bool.eq_false_iff.mpr c61
    subst c61
    have H1 : (laws_FnExactDistancesFrom.j1 kj16 a2 t769 t772 t781 true a0_0 a0_1 l0_2 a1_0 a1_1) = some r := by rw [if_neg (show ¬ (false = true) by decide)] at H; exact H
    clear H
    have H := H1
    clear H1
    have H' := Aside0.mk H
    clear H
    obtain ⟨Ao64, co64, eo64⟩ := Kd.R_slice HO_11.out
    subst eo64
    obtain ⟨Ao65, co65, eo65⟩ := Kd.R_slice HO_8.out
    subst eo65
    go_wp2_with (first | (go_at_call 22; (with_reducible refine (laws_eqIntS.calls kj16 _ _ t781 _ _ t769 false _ ?side1 ?side2 ?side3 ?side4 A60.out).mono ?_); (case side1 => exact zah9); (case side2 => exact (Kd.R_reads' HO_11.out).2.1); (case side3 => exact zah18); (case side4 => exact (Kd.R_reads' HO_8.out).2.1); rintro e w' ⟨rfl, ⟨nd, rfl⟩⟩))
    go_meet
    case rel => exact ⟨_, (true), zah24, H', ⟨by have := HJ16.out; first | omega | exact Nat.le_refl _⟩, ⟨zah23⟩, ⟨zah22⟩, ⟨zah21⟩, ⟨zah2⟩, ⟨zah4⟩, ⟨zah7⟩, ⟨zah1⟩⟩
   case rest =>
    clear HC50
    try clear c1; try clear c2; try clear p2; try clear c3; try clear c4; try clear c5; try clear c5b0; try clear c6; try clear c8; try clear c15; try clear c17; try clear c18; try clear c20; try clear c21; try clear c22; try clear c31; try clear c32; try clear c34; try clear c35; try clear c40; try clear c45; try clear c48; try clear c55; try clear c56; try clear c59; try clear c59b0; try clear c61; try clear hcz21_0; try clear hcz21_1; try clear hcz21_2; try clear hcz28_0; try clear hcz28_1; try clear hcz28_2; try clear hcz33_0; try clear hcz33_1; try clear hcz33_2; try clear hcz57_0; try clear hcz57_1
    try clear hcz57_2; try clear hcz9_0; try clear hcz9_1; try clear hcz9_2; try clear hfz21_0; try clear hfz21_1; try clear hfz21_2; try clear hfz28_0; try clear hfz28_1; try clear hfz28_2; try clear hfz33_0; try clear hfz33_1; try clear hfz33_2; try clear hfz57_0; try clear hfz57_1; try clear hfz57_2; try clear hfz9_0; try clear hfz9_1; try clear hfz9_2; try clear p2
    obtain ⟨kq, x71_49, rfl, HA, HJ49, HO_8, HO_11, HO_779002, BK759, BK760, BK778, HB⟩ := hcut
    have hl779002_49 := (Kd.R_reads' HO_779002.out).1
    rw [hl779002_49] at HO_779002
    (try simp only [hl779002_49])
    (try simp only [hl779002_49] at BK759)
    (try simp only [hl779002_49] at BK760)
    (try simp only [hl779002_49] at BK778)
    (try simp only [hl779002_49] at HO_8)
    (try simp only [hl779002_49] at HO_11)
    cases kq with
    | zero => exact absurd HA.out (by simp [laws_FnExactDistancesFrom.j1])
    | succ kj49 =>
     have H := HA.out
     clear HA
     simp only [laws_FnExactDistancesFrom.j1] at H
     by_cases c66 : x71_49 = true
     ·subst c66
      have H1 : (some false) = some r := by rw [if_pos rfl] at H; exact H
      clear H
      have H := H1
      clear H1
      obtain rfl := Option.some.inj H
      go_wp2
      go_ret
      exact ⟨zah13, zah1⟩
     replace c66 := Bool.eq_false_iff.mpr c66
     subst c66
     have H1 : ((laws_markIntS.f kj49 t781 1).bind fun bt795 => ((laws_heldIntS.f kj49 bt795.2 1).bind fun t797 => (if t797 < 0 then (some false) else (if t797 = bt795.1 then ((laws_toBoard.f kj49 a0_0 a0_1 l0_2).bind fun bt798 => ((laws_toLeaper.f a1_0 a1_1).bind fun bt803 => ((impl_DistancesFrom.f kj49 bt798.1 bt798.2.1 bt798.2.2 bt803.1 bt803.2 a2).bind fun bt805 => ((laws_eqIntS.f kj49 bt805.1 t769).bind fun t809 => (if t809 = true then (laws_FnExactDistancesFrom.j2 kj49 bt795.2 bt795.1 (bt805.2 != t772)) else (laws_FnExactDistancesFrom.j2 kj49 bt795.2 bt795.1 true)))))) else (some false))))) = some r := by rw [if_neg (show ¬ (false = true) by decide)] at H; exact H
     clear H
     have H := H1
     clear H1
     replace H := Option.bind_eq_some_iff.mp H
     obtain ⟨⟨t795, t796⟩, A670, H⟩ := H
     replace H : ((laws_heldIntS.f kj49 t796 1).bind fun t797 => (if t797 < 0 then (some false) else (if t797 = t795 then ((laws_toBoard.f kj49 a0_0 a0_1 l0_2).bind fun bt798 => ((laws_toLeaper.f a1_0 a1_1).bind fun bt803 => ((impl_DistancesFrom.f kj49 bt798.1 bt798.2.1 bt798.2.2 bt803.1 bt803.2 a2).bind fun bt805 => ((laws_eqIntS.f kj49 bt805.1 t769).bind fun t809 => (if t809 = true then (laws_FnExactDistancesFrom.j2 kj49 t796 t795 (bt805.2 != t772)) else (laws_FnExactDistancesFrom.j2 kj49 t796 t795 true)))))) else (some false)))) = some r := H
     have A67 := Aside0.mk A670
     clear A670
     replace H := Option.bind_eq_some_iff.mp H
     obtain ⟨t797, A680, H⟩ := H
     replace H : (if t797 < 0 then (some false) else (if t797 = t795 then ((laws_toBoard.f kj49 a0_0 a0_1 l0_2).bind fun bt798 => ((laws_toLeaper.f a1_0 a1_1).bind fun bt803 => ((impl_DistancesFrom.f kj49 bt798.1 bt798.2.1 bt798.2.2 bt803.1 bt803.2 a2).bind fun bt805 => ((laws_eqIntS.f kj49 bt805.1 t769).bind fun t809 => (if t809 = true then (laws_FnExactDistancesFrom.j2 kj49 t796 t795 (bt805.2 != t772)) else (laws_FnExactDistancesFrom.j2 kj49 t796 t795 true)))))) else (some false))) = some r := H
     have A68 := Aside0.mk A680
     clear A680
     by_cases c69 : t797 < 0
     ·rw [if_pos c69] at H
      have c69b0 : decide (t797 < 0) = true := decide_eq_true c69
      clear c69
      obtain rfl := Option.some.inj H
      obtain ⟨Ao70, co70, eo70⟩ := Kd.R_slice HO_11.out
      subst eo70
      go_wp2_with (first | ((with_reducible refine gate_callee (f := 32) rfl ?_); refine goesL_ (some 74) rfl rfl Try.func32 (by kernel_rfl) rfl #[.slice Ao70 t781.length co70, .int .i64 1] rfl zah3 ?_; (with_reducible refine (laws_markIntS.calls kj49 (fun k_ => some k_ = (.slice Ao70 t781.length co70 : Value).ownBlock) (.slice Ao70 t781.length co70) t781 1 t795 t796 w _ ?side1 ?side2 A67.out).mono ?_); (case side1 => exact zah1); (case side2 => exact Kd.R_tight rfl HO_11.out); rintro e w71 ⟨rfl, hy0, hb, hkp⟩; refine ⟨_, rfl, ?_⟩; have n0_ := Aside0.mk (Kd.R_mono (ok' := fun k_ => some k_ ≠ (.slice Ao70 t781.length co70 : Value).ownBlock ∧ some k_ ≠ (.slice Ao34 t793.length co34 : Value).ownBlock) (Kd.R_keptB (HO_8.out) hkp (fun k_ hk_ hs_ => (hk_.1) hs_)) (fun k_ hk_ => ⟨hk_.1.1, hk_.1.2⟩)); have n1_ := Aside0.mk (Kd.R_reok rfl hy0 (fun k_ e_ => HO_11.out.1 k_ e_)); have n2_ := Aside0.mk (Kd.R_mono (ok' := fun k_ => some k_ ≠ (v770 : Value).ownBlock ∧ some k_ ≠ (.slice Ao70 t781.length co70 : Value).ownBlock) (Kd.R_keptB (HO_779002.out) hkp (fun k_ hk_ hs_ => (hk_.2) hs_)) (fun k_ hk_ => ⟨hk_.1.1, hk_.1.2⟩)); have n3_ := Aside0.mk (blk_kept zah2 hkp (fun hs_ => (fun e_ => (Kd.R_ne HO_11.out BK759.out (by decide)) e_) hs_)); have n4_ := Aside0.mk (blk_kept zah4 hkp (fun hs_ => (fun e_ => (Kd.R_ne HO_11.out BK760.out (by decide)) e_) hs_)); have n5_ := Aside0.mk (blk_kept zah7 hkp (fun hs_ => (fun e_ => (Kd.R_ne HO_11.out BK778.out (by decide)) e_) hs_)); have n6_ := Aside0.mk (hb); clear HO_8; clear HO_11; clear HO_779002; clear BK759; clear BK760; clear BK778; clear HB; have HO_8 := n0_; have HO_11 := n1_; have HO_779002 := n2_; have BK759 := n3_; have BK760 := n4_; have BK778 := n5_; have HB := n6_; clear n0_ n1_ n2_ n3_ n4_ n5_ n6_; (try clear hb); (try clear hkp); (try clear hy0)) | ((with_reducible refine gate_callee (f := 33) rfl ?_); refine goesL_ (some 77) rfl rfl Try.func33 (by kernel_rfl) rfl #[.slice Ao70 t796.length co70, .int .i64 1] rfl zah19 ?_; (with_reducible refine (laws_heldIntS.calls kj49 _ _ t796 1 t797 _ ?side1 ?side2 A68.out).mono ?_); (case side1 => exact zah9); (case side2 => exact zah26); rintro e w' ⟨rfl, ⟨nd, rfl⟩⟩; refine ⟨_, rfl, ?_⟩))
      go_ret
      exact ⟨zah13, zah1⟩
     rw [if_neg c69] at H
     have c69b0 : decide (t797 < 0) = false := decide_eq_false c69
     clear c69
     by_cases c72 : t797 = t795
     rotate_left
     ·rw [if_neg c72] at H
      have c72b0 : (t797 == t795) = false := beq_eq_false_iff_ne.mpr c72
      have c72b1 : (t797 != t795) = true := bne_iff_ne.mpr c72
      obtain rfl := Option.some.inj H
      obtain ⟨Ao94, co94, eo94⟩ := Kd.R_slice HO_11.out
      subst eo94
      go_wp2_with (first | ((with_reducible refine gate_callee (f := 32) rfl ?_); refine goesL_ (some 74) rfl rfl Try.func32 (by kernel_rfl) rfl #[.slice Ao94 t781.length co94, .int .i64 1] rfl zah3 ?_; (with_reducible refine (laws_markIntS.calls kj49 (fun k_ => some k_ = (.slice Ao94 t781.length co94 : Value).ownBlock) (.slice Ao94 t781.length co94) t781 1 t795 t796 w _ ?side1 ?side2 A67.out).mono ?_); (case side1 => exact zah1); (case side2 => exact Kd.R_tight rfl HO_11.out); rintro e w95 ⟨rfl, hy0, hb, hkp⟩; refine ⟨_, rfl, ?_⟩; have n0_ := Aside0.mk (Kd.R_mono (ok' := fun k_ => some k_ ≠ (.slice Ao94 t781.length co94 : Value).ownBlock ∧ some k_ ≠ (.slice Ao34 t793.length co34 : Value).ownBlock) (Kd.R_keptB (HO_8.out) hkp (fun k_ hk_ hs_ => (hk_.1) hs_)) (fun k_ hk_ => ⟨hk_.1.1, hk_.1.2⟩)); have n1_ := Aside0.mk (Kd.R_reok rfl hy0 (fun k_ e_ => HO_11.out.1 k_ e_)); have n2_ := Aside0.mk (Kd.R_mono (ok' := fun k_ => some k_ ≠ (v770 : Value).ownBlock ∧ some k_ ≠ (.slice Ao94 t781.length co94 : Value).ownBlock) (Kd.R_keptB (HO_779002.out) hkp (fun k_ hk_ hs_ => (hk_.2) hs_)) (fun k_ hk_ => ⟨hk_.1.1, hk_.1.2⟩)); have n3_ := Aside0.mk (blk_kept zah2 hkp (fun hs_ => (fun e_ => (Kd.R_ne HO_11.out BK759.out (by decide)) e_) hs_)); have n4_ := Aside0.mk (blk_kept zah4 hkp (fun hs_ => (fun e_ => (Kd.R_ne HO_11.out BK760.out (by decide)) e_) hs_)); have n5_ := Aside0.mk (blk_kept zah7 hkp (fun hs_ => (fun e_ => (Kd.R_ne HO_11.out BK778.out (by decide)) e_) hs_)); have n6_ := Aside0.mk (hb); clear HO_8; clear HO_11; clear HO_779002; clear BK759; clear BK760; clear BK778; clear HB; have HO_8 := n0_; have HO_11 := n1_; have HO_779002 := n2_; have BK759 := n3_; have BK760 := n4_; have BK778 := n5_; have HB := n6_; clear n0_ n1_ n2_ n3_ n4_ n5_ n6_; (try clear hb); (try clear hkp); (try clear hy0)) | ((with_reducible refine gate_callee (f := 33) rfl ?_); refine goesL_ (some 77) rfl rfl Try.func33 (by kernel_rfl) rfl #[.slice Ao94 t796.length co94, .int .i64 1] rfl zah19 ?_; (with_reducible refine (laws_heldIntS.calls kj49 _ _ t796 1 t797 _ ?side1 ?side2 A68.out).mono ?_); (case side1 => exact zah9); (case side2 => exact zah26); rintro e w' ⟨rfl, ⟨nd, rfl⟩⟩; refine ⟨_, rfl, ?_⟩))
      go_ret
      exact ⟨zah13, zah1⟩
     rw [if_pos c72] at H
     have c72b0 : (t797 == t795) = true := beq_iff_eq.mpr c72
     have c72b1 : (t797 != t795) = false := bne_eq_false_iff_eq.mpr c72
     clear c72
     replace H := Option.bind_eq_some_iff.mp H
     obtain ⟨⟨t798, t799, t800⟩, A730, H⟩ := H
     replace H : ((laws_toLeaper.f a1_0 a1_1).bind fun bt803 => ((impl_DistancesFrom.f kj49 t798 t799 t800 bt803.1 bt803.2 a2).bind fun bt805 => ((laws_eqIntS.f kj49 bt805.1 t769).bind fun t809 => (if t809 = true then (laws_FnExactDistancesFrom.j2 kj49 t796 t795 (bt805.2 != t772)) else (laws_FnExactDistancesFrom.j2 kj49 t796 t795 true))))) = some r := H
     have A73 := Aside0.mk A730
     clear A730
     replace H := Option.bind_eq_some_iff.mp H
     obtain ⟨⟨t803, t804⟩, A740, H⟩ := H
     replace H : ((impl_DistancesFrom.f kj49 t798 t799 t800 t803 t804 a2).bind fun bt805 => ((laws_eqIntS.f kj49 bt805.1 t769).bind fun t809 => (if t809 = true then (laws_FnExactDistancesFrom.j2 kj49 t796 t795 (bt805.2 != t772)) else (laws_FnExactDistancesFrom.j2 kj49 t796 t795 true)))) = some r := H
     have A74 := Aside0.mk A740
     clear A740
     replace H := Option.bind_eq_some_iff.mp H
     obtain ⟨⟨t805, t808⟩, A750, H⟩ := H
     replace H : ((laws_eqIntS.f kj49 t805 t769).bind fun t809 => (if t809 = true then (laws_FnExactDistancesFrom.j2 kj49 t796 t795 (t808 != t772)) else (laws_FnExactDistancesFrom.j2 kj49 t796 t795 true))) = some r := H
     have A75 := Aside0.mk A750
     clear A750
     have HC76 := Aside0.mk H
     clear H
     obtain ⟨Ao77, co77, eo77⟩ := Kd.R_slice HO_11.out
     subst eo77
     try go_wp2_with (first | ((with_reducible refine gate_callee (f := 32) rfl ?_); refine goesL_ (some 74) rfl rfl Try.func32 (by kernel_rfl) rfl #[.slice Ao77 t781.length co77, .int .i64 1] rfl zah3 ?_; (with_reducible refine (laws_markIntS.calls kj49 (fun k_ => some k_ = (.slice Ao77 t781.length co77 : Value).ownBlock) (.slice Ao77 t781.length co77) t781 1 t795 t796 w _ ?side1 ?side2 A67.out).mono ?_); (case side1 => exact zah1); (case side2 => exact Kd.R_tight rfl HO_11.out); rintro e w78 ⟨rfl, hy0, hb, hkp⟩; refine ⟨_, rfl, ?_⟩; have n0_ := Aside0.mk (Kd.R_mono (ok' := fun k_ => some k_ ≠ (.slice Ao77 t781.length co77 : Value).ownBlock ∧ some k_ ≠ (.slice Ao34 t793.length co34 : Value).ownBlock) (Kd.R_keptB (HO_8.out) hkp (fun k_ hk_ hs_ => (hk_.1) hs_)) (fun k_ hk_ => ⟨hk_.1.1, hk_.1.2⟩)); have n1_ := Aside0.mk (Kd.R_reok rfl hy0 (fun k_ e_ => HO_11.out.1 k_ e_)); have n2_ := Aside0.mk (Kd.R_mono (ok' := fun k_ => some k_ ≠ (v770 : Value).ownBlock ∧ some k_ ≠ (.slice Ao77 t781.length co77 : Value).ownBlock) (Kd.R_keptB (HO_779002.out) hkp (fun k_ hk_ hs_ => (hk_.2) hs_)) (fun k_ hk_ => ⟨hk_.1.1, hk_.1.2⟩)); have n3_ := Aside0.mk (blk_kept zah2 hkp (fun hs_ => (fun e_ => (Kd.R_ne HO_11.out BK759.out (by decide)) e_) hs_)); have n4_ := Aside0.mk (blk_kept zah4 hkp (fun hs_ => (fun e_ => (Kd.R_ne HO_11.out BK760.out (by decide)) e_) hs_)); have n5_ := Aside0.mk (blk_kept zah7 hkp (fun hs_ => (fun e_ => (Kd.R_ne HO_11.out BK778.out (by decide)) e_) hs_)); have n6_ := Aside0.mk (hb); clear HO_8; clear HO_11; clear HO_779002; clear BK759; clear BK760; clear BK778; clear HB; have HO_8 := n0_; have HO_11 := n1_; have HO_779002 := n2_; have BK759 := n3_; have BK760 := n4_; have BK778 := n5_; have HB := n6_; clear n0_ n1_ n2_ n3_ n4_ n5_ n6_; (try clear hb); (try clear hkp); (try clear hy0)) | ((with_reducible refine gate_callee (f := 33) rfl ?_); refine goesL_ (some 77) rfl rfl Try.func33 (by kernel_rfl) rfl #[.slice Ao77 t796.length co77, .int .i64 1] rfl zah19 ?_; (with_reducible refine (laws_heldIntS.calls kj49 _ _ t796 1 t797 _ ?side1 ?side2 A68.out).mono ?_); (case side1 => exact zah9); (case side2 => exact zah26); rintro e w' ⟨rfl, ⟨nd, rfl⟩⟩; refine ⟨_, rfl, ?_⟩))
     (try (rw [drewN_self w78]; generalize hq_ : World.drewN w78 _ = w78; have n0_ : Aside0 (Kd.R (Kd.int .i64) 3 w78 w.heap.size (fun k_ => (some k_ ≠ (v770 : Value).ownBlock ∧ some k_ ≠ (.slice Ao34 t793.length co34 : Value).ownBlock)) (.slice Ao77 t781.length co77) t796) := ⟨by rw [← hq_]; exact zah10⟩; have n1_ : Aside0 (Kd.R (Kd.int .i64) 3 w78 w.heap.size (fun k_ => (some k_ ≠ (v770 : Value).ownBlock ∧ some k_ ≠ (.slice Ao77 t781.length co77 : Value).ownBlock)) (.slice Ao34 t793.length co34) t793) := ⟨by rw [← hq_]; exact zah8⟩; have n2_ : Aside0 (Kd.R (Kd.int .i64) 3 w78 w.heap.size (fun k_ => (some k_ ≠ (.slice Ao77 t781.length co77 : Value).ownBlock ∧ some k_ ≠ (.slice Ao34 t793.length co34 : Value).ownBlock)) v770 t769) := ⟨by rw [← hq_]; exact zah11⟩; have n3_ : Aside0 (w78.heap[gb759]? = some (.cells #[.int .i64 a0_0, .int .i64 a0_1, .slice A0_2 l0_2.length c0_2] 24 (0, 0))) := ⟨by rw [← hq_]; exact zah2⟩; have n4_ : Aside0 (w78.heap[gb760]? = some (.cells #[.int .i64 a1_0, .int .i64 a1_1] 26 (0, 0))) := ⟨by rw [← hq_]; exact zah4⟩; have n5_ : Aside0 (w78.heap[gb778]? = some (.cells #[.int .i64 t773, .int .i64 t774, .slice Ao34 t793.length co34] 30 (0, 0))) := ⟨by rw [← hq_]; exact zah7⟩; have n6_ : Aside0 (Below w.heap.size w w78) := ⟨by rw [← hq_]; exact zah1⟩; clear HO_11 HO_779002 HO_8 BK759 BK760 BK778 HB hq_; have HO_11 := n0_; have HO_779002 := n1_; have HO_8 := n2_; have BK759 := n3_; have BK760 := n4_; have BK778 := n5_; have HB := n6_; clear n0_ n1_ n2_ n3_ n4_ n5_ n6_))
     have n0_ := Aside0.mk (Kd.R_drew HO_8.out)
     have n1_ := Aside0.mk (Kd.R_drew HO_11.out)
     have n2_ := Aside0.mk (Kd.R_drew HO_779002.out)
     have n3_ := Aside0.mk (blk_drew BK759.out)
     have n4_ := Aside0.mk (blk_drew BK760.out)
     have n5_ := Aside0.mk (blk_drew BK778.out)
     have n6_ := Aside0.mk (below_drew1 HB.out)
     clear HO_8
     clear HO_11
     clear HO_779002
     clear BK759
     clear BK760
     clear BK778
     clear HB
     have HO_8 := n0_
     have HO_11 := n1_
     have HO_779002 := n2_
     have BK759 := n3_
     have BK760 := n4_
     have BK778 := n5_
     have HB := n6_
     clear n0_ n1_ n2_ n3_ n4_ n5_ n6_
     refine start_ (n := 11) (S := fun w' => w'.cell? ⟨gb759, 0, none⟩ = some (.int .i64 a0_0) ∧ w'.cell? ⟨gb759, 1, none⟩ = some (.int .i64 a0_1) ∧ w'.cell? ⟨gb759, 2, none⟩ = some (.slice A0_2 l0_2.length c0_2) ∧ w'.cell? ⟨gb760, 0, none⟩ = some (.int .i64 a1_0) ∧ w'.cell? ⟨gb760, 1, none⟩ = some (.int .i64 a1_1)) (ds := []) #[false, false, false, false, false, false, false, false, false, false, false] (by kernel_rfl) rfl rfl ⟨(blk_cell BK759.out 0).trans rfl, (blk_cell BK759.out 1).trans rfl, (blk_cell BK759.out 2).trans rfl, (blk_cell BK760.out 0).trans rfl, (blk_cell BK760.out 1).trans rfl⟩ (fun hHeld => ?_); refine with_tabW laws_FnExactDistancesFrom.tab24 laws_FnExactDistancesFrom.bits24 (fun HT_ HW_ => ?_)
     generalize w78.drew = w79 at HO_8 HO_11 HO_779002 BK759 BK760 BK778 HB hHeld ⊢
     refine pure_ (i := 4) (N := some 88) (v := ?_) (a' := ?_) #[false, false, false, false, true, false, false, false, false, false, false] rfl rfl (any_of HT_.out (by kernel_rfl)) (fun _ _ _ h => h) (Or.inl ⟨by rfl, ?_⟩) ?_ ?_
     rotate_left
     ·intro w'
      go_simp
      with_reducible rfl
     rotate_left
     ·simp only [Act.put, List.setIfInBounds_toArray, List.set_cons_zero, List.set_cons_succ, i64_w, i32_w]
      rfl
     refine take_ (i := 0) (N := some 84) (v := ?_) (a' := ?_) #[true, false, false, false, true, false, false, false, false, false, false] rfl rfl (take_ofW HT_.out HW_.out (by kernel_rfl)) (fun _ _ _ h => h) (Or.inl ⟨by rfl, ?_⟩) hHeld ?_ ?_
     rotate_left
     ·rintro w' ⟨s0, s1, s2, s3, s4⟩
      go_simp
      with_reducible rfl
     rotate_left
     ·simp only [Act.put, List.setIfInBounds_toArray, List.set_cons_zero, List.set_cons_succ, i64_w, i32_w]
      rfl
     refine take_ (i := 2) (N := some 86) (v := ?_) (a' := ?_) #[true, false, true, false, true, false, false, false, false, false, false] rfl rfl (take_ofW HT_.out HW_.out (by kernel_rfl)) (fun _ _ _ h => h) (Or.inl ⟨by rfl, ?_⟩) hHeld ?_ ?_
     rotate_left
     ·rintro w' ⟨s0, s1, s2, s3, s4⟩
      go_simp
      with_reducible rfl
     rotate_left
     ·simp only [Act.put, List.setIfInBounds_toArray, List.set_cons_zero, List.set_cons_succ, i64_w, i32_w]
      rfl
     refine one_ (i := 1) (N := some 85) #[true, true, true, false, true, false, false, false, false, false, false] rfl rfl (one_of HT_.out (by kernel_rfl)) (by decide) (fun K hK => ?_)
     refine goes_ Try.func17 (by kernel_rfl) rfl #[.agg #[.int .i64 a0_0, .int .i64 a0_1, .slice A0_2 l0_2.length c0_2]] (by rfl) rfl rfl zah3 ?_
     with_reducible refine (laws_toBoard.calls kj49 a0_0 a0_1 _ _ l0_2 t798 t799 t800 _ ?side1 ?side2 A73.out).mono ?_
     (case side1 => exact zah12)
     (case side2 => exact HC0_2.out)
     rintro e w80 ⟨v801, rfl, ho0, hb⟩
     refine ⟨_, rfl, ?_⟩
     have n0_ := Aside0.mk (Kd.R_elder' zah11 (Kd.R_base ho0) hb)
     have n1_ := Aside0.mk (Kd.R_elder' zah10 (Kd.R_base ho0) hb)
     have n2_ := Aside0.mk (Kd.R_elder' zah8 (Kd.R_base ho0) hb)
     have n3_ := Aside0.mk (Kd.R_lower (Kd.R_new' (Kd.R_new' (Kd.R_new' ho0 (Kd.R_lt zah11)) (Kd.R_lt zah10)) (Kd.R_lt zah8)) (below_size zah1))
     have n4_ := Aside0.mk (blk_below (g := gb759) (o := .cells #[.int .i64 a0_0, .int .i64 a0_1, .slice A0_2 l0_2.length c0_2] 24 (0, 0)) zah2 hb)
     have n5_ := Aside0.mk (blk_below (g := gb760) (o := .cells #[.int .i64 a1_0, .int .i64 a1_1] 26 (0, 0)) zah4 hb)
     have n6_ := Aside0.mk (blk_below (g := gb778) (o := .cells #[.int .i64 t773, .int .i64 t774, .slice Ao34 t793.length co34] 30 (0, 0)) zah7 hb)
     have n7_ := Aside0.mk (below_step zah1 hb)
     clear HO_8
     clear HO_11
     clear HO_779002
     clear BK759
     clear BK760
     clear BK778
     clear HB
     have HO_8 := n0_
     have HO_11 := n1_
     have HO_779002 := n2_
     have HO802 := n3_
     have BK759 := n4_
     have BK760 := n5_
     have BK778 := n6_
     have HB := n7_
     clear n0_ n1_ n2_ n3_ n4_ n5_ n6_ n7_
     (try clear hb)
     (try clear hb2)
     (try clear hk)
     (try clear hi)
     (try clear ho0)
     (try clear hna_)
     (try clear hnb_)
     refine hK.out _ _ ⟨(blk_cell BK759.out 0).trans rfl, (blk_cell BK759.out 1).trans rfl, (blk_cell BK759.out 2).trans rfl, (blk_cell BK760.out 0).trans rfl, (blk_cell BK760.out 1).trans rfl⟩ (fun hHeld => ?_)
     clear hK K
     refine norm_ (a' := ?_) ?_ ?_
     rotate_left
     ·show Act.put _ (some 85) _ = _
      simp only [Act.put, List.setIfInBounds_toArray, List.set_cons_zero, List.set_cons_succ, i64_w, i32_w]
      rfl
     refine one_ (i := 3) (N := some 87) #[true, true, true, true, true, false, false, false, false, false, false] rfl rfl (one_of HT_.out (by kernel_rfl)) (by decide) (fun K hK => ?_)
     refine goes_ Try.func18 (by kernel_rfl) rfl #[.agg #[.int .i64 a1_0, .int .i64 a1_1]] (by rfl) rfl rfl zah3 ?_
     with_reducible refine (laws_toLeaper.calls a1_0 a1_1 t803 t804 _ A74.out).mono ?_
     rintro e w81 ⟨rfl, hb⟩
     refine ⟨_, rfl, ?_⟩
     have n0_ := Aside0.mk (Kd.R_below zah11 hb)
     have n1_ := Aside0.mk (Kd.R_below zah10 hb)
     have n2_ := Aside0.mk (Kd.R_below zah8 hb)
     have n3_ := Aside0.mk (Kd.R_below zah25 hb)
     have n4_ := Aside0.mk (blk_below (g := gb759) (o := .cells #[.int .i64 a0_0, .int .i64 a0_1, .slice A0_2 l0_2.length c0_2] 24 (0, 0)) zah2 hb)
     have n5_ := Aside0.mk (blk_below (g := gb760) (o := .cells #[.int .i64 a1_0, .int .i64 a1_1] 26 (0, 0)) zah4 hb)
     have n6_ := Aside0.mk (blk_below (g := gb778) (o := .cells #[.int .i64 t773, .int .i64 t774, .slice Ao34 t793.length co34] 30 (0, 0)) zah7 hb)
     have n7_ := Aside0.mk (below_step zah1 hb)
     clear HO_8
     clear HO_11
     clear HO_779002
     clear HO802
     clear BK759
     clear BK760
     clear BK778
     clear HB
     have HO_8 := n0_
     have HO_11 := n1_
     have HO_779002 := n2_
     have HO802 := n3_
     have BK759 := n4_
     have BK760 := n5_
     have BK778 := n6_
     have HB := n7_
     clear n0_ n1_ n2_ n3_ n4_ n5_ n6_ n7_
     (try clear hb)
     (try clear hb2)
     (try clear hk)
     (try clear hi)
     (try clear hna_)
     (try clear hnb_)
     obtain ⟨Ao82, co82, eo82⟩ := Kd.R_slice HO802.out
     (first | subst eo82 | (injection eo82 with f1_ f2_ f3_; have f4_ := f1_.symm; have f5_ := f3_.symm; clear f1_ f2_ f3_; subst f4_; subst f5_))
     refine hK.out _ _ ⟨(blk_cell BK759.out 0).trans rfl, (blk_cell BK759.out 1).trans rfl, (blk_cell BK759.out 2).trans rfl, (blk_cell BK760.out 0).trans rfl, (blk_cell BK760.out 1).trans rfl⟩ (fun hHeld => ?_)
     clear hK K
     refine norm_ (a' := ?_) ?_ ?_
     rotate_left
     ·show Act.put _ (some 87) _ = _
      simp only [Act.put, List.setIfInBounds_toArray, List.set_cons_zero, List.set_cons_succ, i64_w, i32_w]
      rfl
     refine one_ (i := 5) (N := some 89) #[true, true, true, true, true, true, false, false, false, false, false] rfl rfl (one_of HT_.out (by kernel_rfl)) (by decide) (fun K hK => ?_)
     refine goes_ Try.func35 (by kernel_rfl) rfl #[.agg #[.int .i64 t798, .int .i64 t799, .slice Ao82 t800.length co82], .agg #[.int .i64 t803, .int .i64 t804], .int .i64 a2] (by rfl) rfl rfl zah3 ?_
     with_reducible refine (impl_DistancesFrom.calls kj49 t798 t799 _ _ t800 t803 t804 a2 t805 t808 _ ?side1 ?side2 A75.out).mono ?_
     (case side1 => repeat (first | exact (Kd.R_reads' HO802.out).2.2 | (with_reducible refine Kd.C_alloc ?_ _) | (with_reducible refine Kd.C_drewN ?_ _) | (with_reducible refine Kd.C_drew ?_)))
     (case side2 => exact (Kd.R_reads' HO802.out).2.1)
     rintro e w83 ⟨v806, rfl, ho0, hb⟩
     refine ⟨_, rfl, ?_⟩
     have n0_ := Aside0.mk (Kd.R_elder' zah11 (Kd.R_base ho0) hb)
     have n1_ := Aside0.mk (Kd.R_elder' zah10 (Kd.R_base ho0) hb)
     have n2_ := Aside0.mk (Kd.R_elder' zah8 (Kd.R_base ho0) hb)
     have n3_ := Aside0.mk (Kd.R_elder' zah25 (Kd.R_base ho0) hb)
     have n4_ := Aside0.mk (Kd.R_lower (Kd.R_new' (Kd.R_new' (Kd.R_new' (Kd.R_new' ho0 (Kd.R_lt zah11)) (Kd.R_lt zah10)) (Kd.R_lt zah8)) (Kd.R_lt zah25)) (below_size zah1))
     have n5_ := Aside0.mk (blk_below (g := gb759) (o := .cells #[.int .i64 a0_0, .int .i64 a0_1, .slice A0_2 l0_2.length c0_2] 24 (0, 0)) zah2 hb)
     have n6_ := Aside0.mk (blk_below (g := gb760) (o := .cells #[.int .i64 a1_0, .int .i64 a1_1] 26 (0, 0)) zah4 hb)
     have n7_ := Aside0.mk (blk_below (g := gb778) (o := .cells #[.int .i64 t773, .int .i64 t774, .slice Ao34 t793.length co34] 30 (0, 0)) zah7 hb)
     have n8_ := Aside0.mk (below_step zah1 hb)
     clear HO_8
     clear HO_11
     clear HO_779002
     clear HO802
     clear BK759
     clear BK760
     clear BK778
     clear HB
     have HO_8 := n0_
     have HO_11 := n1_
     have HO_779002 := n2_
     have HO802 := n3_
     have HO807 := n4_
     have BK759 := n5_
     have BK760 := n6_
     have BK778 := n7_
     have HB := n8_
     clear n0_ n1_ n2_ n3_ n4_ n5_ n6_ n7_ n8_
     (try clear hb)
     (try clear hb2)
     (try clear hk)
     (try clear hi)
     (try clear ho0)
     (try clear hna_)
     (try clear hnb_)
     refine hK.out _ _ ⟨(blk_cell BK759.out 0).trans rfl, (blk_cell BK759.out 1).trans rfl, (blk_cell BK759.out 2).trans rfl, (blk_cell BK760.out 0).trans rfl, (blk_cell BK760.out 1).trans rfl⟩ (fun hHeld => ?_)
     clear hK K
     refine norm_ (a' := ?_) ?_ ?_
     rotate_left
     ·show Act.put _ (some 89) _ = _
      simp only [Act.put, List.setIfInBounds_toArray, List.set_cons_zero, List.set_cons_succ, i64_w, i32_w]
      rfl
     refine pure_ (i := 6) (N := some 83) (v := ?_) (a' := ?_) #[true, true, true, true, true, true, true, false, false, false, false] rfl rfl (any_of HT_.out (by kernel_rfl)) (fun _ _ _ h => h) (Or.inl ⟨by rfl, ?_⟩) ?_ ?_
     rotate_left
     ·intro w'
      go_simp
      with_reducible rfl
     rotate_left
     ·simp only [Act.put, List.setIfInBounds_toArray, List.set_cons_zero, List.set_cons_succ, i64_w, i32_w]
      rfl
     refine pure_ (i := 7) (N := some 90) (v := ?_) (a' := ?_) #[true, true, true, true, true, true, true, true, false, false, false] rfl rfl (any_of HT_.out (by kernel_rfl)) (fun _ _ _ h => h) (Or.inl ⟨by rfl, ?_⟩) ?_ ?_
     rotate_left
     ·intro w'
      go_simp
      with_reducible rfl
     rotate_left
     ·simp only [Act.put, List.setIfInBounds_toArray, List.set_cons_zero, List.set_cons_succ, i64_w, i32_w]
      rfl
     refine pure_ (i := 8) (N := some 91) (v := ?_) (a' := ?_) #[true, true, true, true, true, true, true, true, true, false, false] rfl rfl (any_of HT_.out (by kernel_rfl)) (fun _ _ _ h => h) (Or.inl ⟨by rfl, ?_⟩) ?_ ?_
     rotate_left
     ·intro w'
      go_simp
      with_reducible rfl
     rotate_left
     ·simp only [Act.put, List.setIfInBounds_toArray, List.set_cons_zero, List.set_cons_succ, i64_w, i32_w]
      rfl
     refine pure_ (i := 9) (N := some 16) (v := ?_) (a' := ?_) #[true, true, true, true, true, true, true, true, true, true, false] rfl rfl (any_of HT_.out (by kernel_rfl)) (fun _ _ _ h => h) (Or.inl ⟨by rfl, ?_⟩) ?_ ?_
     rotate_left
     ·intro w'
      go_simp
      with_reducible rfl
     rotate_left
     ·simp only [Act.put, List.setIfInBounds_toArray, List.set_cons_zero, List.set_cons_succ, i64_w, i32_w]
      rfl
     refine pure_ (i := 10) (N := some 17) (v := ?_) (a' := ?_) #[true, true, true, true, true, true, true, true, true, true, true] rfl rfl (any_of HT_.out (by kernel_rfl)) (fun _ _ _ h => h) (Or.inl ⟨by rfl, ?_⟩) ?_ ?_
     rotate_left
     ·intro w'
      go_simp
      with_reducible rfl
     rotate_left
     ·simp only [Act.put, List.setIfInBounds_toArray, List.set_cons_zero, List.set_cons_succ, i64_w, i32_w]
      rfl
     refine done_ (done_of HT_.out (by kernel_rfl)) ?_
     go_upto_region 25 with (fail)
     go_cut [100] (fun v100 wc => ∃ (kq : Nat) (x100_75 : Bool), v100 = .bool x100_75 ∧ Aside0 (laws_FnExactDistancesFrom.j2 kq t796 t795 x100_75 = some r) ∧ Aside0 (kq ≤ kj49) ∧ Aside0 (Kd.R (Kd.int .i64) 3 wc w.heap.size (fun k_ => some k_ ≠ ((.slice Ao34 t793.length co34) : Value).ownBlock) (.slice Ao77 t781.length co77) t796) ∧ Aside0 (Kd.R (Kd.int .i64) 3 wc w.heap.size (fun k_ => some k_ ≠ ((.slice Ao77 t781.length co77) : Value).ownBlock) (.slice Ao34 t793.length co34) t793) ∧ Aside0 (wc.heap[gb759]? = some (.cells #[.int .i64 a0_0, .int .i64 a0_1, (.slice A0_2 l0_2.length c0_2)] 24 (0, 0))) ∧ Aside0 (wc.heap[gb760]? = some (.cells #[.int .i64 a1_0, .int .i64 a1_1] 26 (0, 0))) ∧ Aside0 (wc.heap[gb778]? = some (.cells #[.int .i64 t773, .int .i64 t774, (.slice Ao34 t793.length co34)] 30 (0, 0))) ∧ Aside0 (Below w.heap.size w wc))
     case first =>
      have H := HC76.out
      clear HC76
      replace H := Option.bind_eq_some_iff.mp H
      obtain ⟨t809, A840, H⟩ := H
      replace H : (if t809 = true then (laws_FnExactDistancesFrom.j2 kj49 t796 t795 (t808 != t772)) else (laws_FnExactDistancesFrom.j2 kj49 t796 t795 true)) = some r := H
      have A84 := Aside0.mk A840
      clear A840
      by_cases c85 : t809 = true
      ·subst c85
       have H1 : (laws_FnExactDistancesFrom.j2 kj49 t796 t795 (t808 != t772)) = some r := by rw [if_pos rfl] at H; exact H
       clear H
       have H := H1
       clear H1
       have H' := Aside0.mk H
       clear H
       obtain ⟨Ao86, co86, eo86⟩ := Kd.R_slice HO807.out
       subst eo86
       obtain ⟨Ao87, co87, eo87⟩ := Kd.R_slice HO_8.out
       subst eo87
       go_wp2_with (first | ((with_reducible refine gate_callee (f := 22) rfl ?_); refine goesL_ (some 94) rfl rfl Try.func22 (by kernel_rfl) rfl #[.slice Ao86 t805.length co86, .slice Ao87 t769.length co87] rfl zah3 ?_; (with_reducible refine (laws_eqIntS.calls kj49 _ _ t805 _ _ t769 true _ ?side1 ?side2 ?side3 ?side4 A84.out).mono ?_); (case side1 => exact zah30); (case side2 => exact (Kd.R_reads' HO807.out).2.1); (case side3 => exact zah18); (case side4 => exact (Kd.R_reads' HO_8.out).2.1); rintro e w' ⟨rfl, ⟨nd, rfl⟩⟩; refine ⟨_, rfl, ?_⟩))
       go_meet
       case rel => exact ⟨_, ((t808 != t772)), zah24, H', ⟨by have := HJ16.out; have := HJ49.out; first | omega | exact Nat.le_refl _⟩, ⟨zah28⟩, ⟨zah27⟩, ⟨zah36⟩, ⟨zah35⟩, ⟨zah34⟩, ⟨zah1⟩⟩
      replace c85 := Bool.eq_false_iff.mpr c85
      subst c85
      have H1 : (laws_FnExactDistancesFrom.j2 kj49 t796 t795 true) = some r := by rw [if_neg (show ¬ (false = true) by decide)] at H; exact H
      clear H
      have H := H1
      clear H1
      have H' := Aside0.mk H
      clear H
      obtain ⟨Ao88, co88, eo88⟩ := Kd.R_slice HO807.out
      subst eo88
      obtain ⟨Ao89, co89, eo89⟩ := Kd.R_slice HO_8.out
      subst eo89
      go_wp2_with (first | ((with_reducible refine gate_callee (f := 22) rfl ?_); refine goesL_ (some 94) rfl rfl Try.func22 (by kernel_rfl) rfl #[.slice Ao88 t805.length co88, .slice Ao89 t769.length co89] rfl zah3 ?_; (with_reducible refine (laws_eqIntS.calls kj49 _ _ t805 _ _ t769 false _ ?side1 ?side2 ?side3 ?side4 A84.out).mono ?_); (case side1 => exact zah30); (case side2 => exact (Kd.R_reads' HO807.out).2.1); (case side3 => exact zah18); (case side4 => exact (Kd.R_reads' HO_8.out).2.1); rintro e w' ⟨rfl, ⟨nd, rfl⟩⟩; refine ⟨_, rfl, ?_⟩))
      go_meet
      case rel => exact ⟨_, (true), zah24, H', ⟨by have := HJ16.out; have := HJ49.out; first | omega | exact Nat.le_refl _⟩, ⟨zah28⟩, ⟨zah27⟩, ⟨zah36⟩, ⟨zah35⟩, ⟨zah34⟩, ⟨zah1⟩⟩
     case rest =>
      clear HC76
      try clear c1; try clear c2; try clear p2; try clear c3; try clear c4; try clear c5; try clear c5b0; try clear c6; try clear c7; try clear c8; try clear c15; try clear c17; try clear c18; try clear c20; try clear c21; try clear c22; try clear c31; try clear c32; try clear c33; try clear c34; try clear c35; try clear c40; try clear c45; try clear c48; try clear c55; try clear c56; try clear c59; try clear c59b0; try clear c61; try clear c66; try clear c69; try clear c69b0; try clear c72; try clear c72b0; try clear c72b1; try clear c85; try clear hcz21_0; try clear hcz21_1; try clear hcz21_2; try clear hcz28_0
      try clear hcz28_1; try clear hcz28_2; try clear hcz33_0; try clear hcz33_1; try clear hcz33_2; try clear hcz57_0; try clear hcz57_1; try clear hcz57_2; try clear hcz9_0; try clear hcz9_1; try clear hcz9_2; try clear hfz21_0; try clear hfz21_1; try clear hfz21_2; try clear hfz28_0; try clear hfz28_1; try clear hfz28_2; try clear hfz33_0; try clear hfz33_1; try clear hfz33_2; try clear hfz57_0; try clear hfz57_1; try clear hfz57_2; try clear hfz9_0; try clear hfz9_1; try clear hfz9_2; try clear p2
      obtain ⟨kq, x100_75, rfl, HA, HJ75, HO_11, HO_779002, BK759, BK760, BK778, HB⟩ := hcut
      have hl11_75 := (Kd.R_reads' HO_11.out).1
      rw [hl11_75] at HO_11
      (try simp only [hl11_75])
      (try simp only [hl11_75] at BK759)
      (try simp only [hl11_75] at BK760)
      (try simp only [hl11_75] at BK778)
      (try simp only [hl11_75] at HO_779002)
      cases kq with
      | zero => exact absurd HA.out (by simp [laws_FnExactDistancesFrom.j2])
      | succ kj75 =>
       have H := HA.out
       clear HA
       simp only [laws_FnExactDistancesFrom.j2] at H
       by_cases c90 : x100_75 = true
       ·subst c90
        have H1 : (some false) = some r := by rw [if_pos rfl] at H; exact H
        clear H
        have H := H1
        clear H1
        obtain rfl := Option.some.inj H
        go_wp2
        go_ret
        exact ⟨zah13, zah1⟩
       replace c90 := Bool.eq_false_iff.mpr c90
       subst c90
       have H1 : ((laws_heldIntS.f kj75 t796 1).bind fun t810 => (if t810 < 0 then (some false) else (if t810 = t795 then (some true) else (some false)))) = some r := by rw [if_neg (show ¬ (false = true) by decide)] at H; exact H
       clear H
       have H := H1
       clear H1
       replace H := Option.bind_eq_some_iff.mp H
       obtain ⟨t810, A910, H⟩ := H
       replace H : (if t810 < 0 then (some false) else (if t810 = t795 then (some true) else (some false))) = some r := H
       have A91 := Aside0.mk A910
       clear A910
       by_cases c92 : t810 < 0
       ·rw [if_pos c92] at H
        have c92b0 : decide (t810 < 0) = true := decide_eq_true c92
        clear c92
        obtain rfl := Option.some.inj H
        go_wp2_with (first | ((with_reducible refine gate_callee (f := 33) rfl ?_); refine goesL_ (some 103) rfl rfl Try.func33 (by kernel_rfl) rfl #[.slice Ao77 t796.length co77, .int .i64 1] rfl zah3 ?_; (with_reducible refine (laws_heldIntS.calls kj75 _ _ t796 1 t810 _ ?side1 ?side2 A91.out).mono ?_); (case side1 => exact zah9); (case side2 => exact (Kd.R_reads' HO_11.out).2.1); rintro e w' ⟨rfl, ⟨nd, rfl⟩⟩; refine ⟨_, rfl, ?_⟩))
        go_ret
        exact ⟨zah13, zah1⟩
       rw [if_neg c92] at H
       have c92b0 : decide (t810 < 0) = false := decide_eq_false c92
       clear c92
       by_cases c93 : t810 = t795
       rotate_left
       ·rw [if_neg c93] at H
        have c93b0 : (t810 == t795) = false := beq_eq_false_iff_ne.mpr c93
        have c93b1 : (t810 != t795) = true := bne_iff_ne.mpr c93
        obtain rfl := Option.some.inj H
        go_wp2_with (first | ((with_reducible refine gate_callee (f := 33) rfl ?_); refine goesL_ (some 103) rfl rfl Try.func33 (by kernel_rfl) rfl #[.slice Ao77 t796.length co77, .int .i64 1] rfl zah3 ?_; (with_reducible refine (laws_heldIntS.calls kj75 _ _ t796 1 t810 _ ?side1 ?side2 A91.out).mono ?_); (case side1 => exact zah9); (case side2 => exact (Kd.R_reads' HO_11.out).2.1); rintro e w' ⟨rfl, ⟨nd, rfl⟩⟩; refine ⟨_, rfl, ?_⟩))
        go_ret
        exact ⟨zah13, zah1⟩
       rw [if_pos c93] at H
       have c93b0 : (t810 == t795) = true := beq_iff_eq.mpr c93
       have c93b1 : (t810 != t795) = false := bne_eq_false_iff_eq.mpr c93
       clear c93
       obtain rfl := Option.some.inj H
       go_wp2_with (first | ((with_reducible refine gate_callee (f := 33) rfl ?_); refine goesL_ (some 103) rfl rfl Try.func33 (by kernel_rfl) rfl #[.slice Ao77 t796.length co77, .int .i64 1] rfl zah3 ?_; (with_reducible refine (laws_heldIntS.calls kj75 _ _ t796 1 t810 _ ?side1 ?side2 A91.out).mono ?_); (case side1 => exact zah9); (case side2 => exact (Kd.R_reads' HO_11.out).2.1); rintro e w' ⟨rfl, ⟨nd, rfl⟩⟩; refine ⟨_, rfl, ?_⟩))
       go_ret
       exact ⟨zah13, zah1⟩

end Go.Proofs.Ythoklbeenjppbaa.Q

/- Written by a program of this session: functions of the translation as plain Lean functions, each with a proof that the call does what the plain function says; the conditions stand in each theorem. -/
import Derived.Test.YtjeongckkfkehaaQ0
import Derived.Test.YtjeongckkfkehaaQ1
import Derived.Test.YtjeongckkfkehaaQ2
import Derived.Test.YtjeongckkfkehaaQ5
import Derived.Test.YtjeongckkfkehaaQ11
import Derived.Test.YtjeongckkfkehaaQ14
import Derived.Test.YtjeongckkfkehaaQ15
namespace Go.Proofs.Ytjeongckkfkehaa.Q
open Go.RowKit Go.Proofs.YtjeongckkfkehaaW.PrintWords Go.Proofs.YtjeongckkfkehaaW.PrintLast Go.Proofs.YtjeongckkfkehaaW.PrintMore
attribute [local go_sem] max2_int min2_int max_two min_two max_three min_three max_four min_four   -- for this text's walks alone
set_option linter.unusedVariables false
set_option linter.unusedSimpArgs false

theorem zq1 {p : Prop} (h : p := by repeat (first | (with_reducible first | exact HB.out | apply below_alloc | apply pw_below_drewN | apply below_drew1 | refine below_set ?_ GE396.out | refine below_set ?_ GE397.out | refine below_set ?_ GE415.out) | exact HB.out)) : p := h
theorem zq2 {p : Prop} (h : p := by (with_reducible repeat (first | refine blk_drewN ?_ _ | refine blk_drew ?_ | refine blk_alloc ?_ _)); exact BK396.out) : p := h
theorem zq3 {p : Prop} (h : p := by (try simp only [List.map_toArray, List.map_cons, List.map_nil]); first | done | rfl | (simp only [List.length_drop, List.length_take]; rfl)) : p := h
theorem zq4 {p : Prop} (h : p := by (with_reducible repeat (first | refine blk_drewN ?_ _ | refine blk_drew ?_ | refine blk_alloc ?_ _)); exact BK397.out) : p := h
theorem zq6 {p : Prop} (h : p := by repeat (first | (with_reducible first | exact HB.out | apply below_alloc | apply pw_below_drewN | apply below_drew1 | refine below_set ?_ GE396.out | refine below_set ?_ GE397.out) | exact HB.out)) : p := h
theorem zq7 {p : Prop} (h : p := by (with_reducible repeat (first | refine blk_drewN ?_ _ | refine blk_drew ?_ | refine blk_alloc ?_ _)); exact BK415.out) : p := h
theorem zq8 {p : Prop} (h : p := by (with_reducible repeat (first | apply Kd.R_alloc | apply Kd.R_drewN | apply Kd.R_drew)); exact HO_416002.out) : p := h
theorem zq9 {p : Prop} (h : p := by repeat (first | exact (Kd.R_reads' HO_11.out).2.2 | (with_reducible refine Kd.C_alloc ?_ _) | (with_reducible refine Kd.C_drewN ?_ _) | (with_reducible refine Kd.C_drew ?_))) : p := h
theorem zq10 {p : Prop} (h : p := by (with_reducible repeat (first | apply Kd.R_alloc | apply Kd.R_drewN | apply Kd.R_drew)); exact HO_11.out) : p := h
theorem zq11 {p : Prop} (h : p := by (with_reducible repeat (first | apply Kd.R_alloc | apply Kd.R_drewN | apply Kd.R_drew)); exact HO_8.out) : p := h
theorem zq12 {p : Prop} (h : p := by repeat (first | exact (Kd.C_below HR0_2.out HB.out) | (with_reducible refine Kd.C_alloc ?_ _) | (with_reducible refine Kd.C_drewN ?_ _) | (with_reducible refine Kd.C_drew ?_))) : p := h
theorem zq13 {p : Prop} (h : p := by first | rfl | (simp [errW_none, errW_some] <;> rfl) | (simp [*, errW_none, errW_some] <;> rfl)) : p := h
theorem zq14 {p : Prop} (h : p := by (with_reducible repeat (first | apply Kd.R_alloc | apply Kd.R_drewN | apply Kd.R_drew)); exact HO403.out) : p := h
theorem zq15 {p : Prop} (h : p := by repeat (first | (with_reducible first | exact HB.out | apply below_alloc | apply pw_below_drewN | apply below_drew1 | refine below_set ?_ GE396.out) | exact HB.out)) : p := h
theorem zq16 {p : Prop} (h : p := by repeat (first | (with_reducible first | exact HB.out | apply below_alloc | apply pw_below_drewN | apply below_drew1) | exact HB.out)) : p := h
theorem zq17 {p : Prop} (h : p := by (with_reducible repeat (first | apply Kd.R_alloc | apply Kd.R_drewN | apply Kd.R_drew)); exact HO408.out) : p := h
theorem zq18 {p : Prop} (h : p := by repeat (first | exact (Kd.R_reads' HO_8.out).2.2 | (with_reducible refine Kd.C_alloc ?_ _) | (with_reducible refine Kd.C_drewN ?_ _) | (with_reducible refine Kd.C_drew ?_))) : p := h
theorem zq19 {p : Prop} (h : p := by (try simp only [List.map_toArray, List.map_cons, List.map_nil]); first | done | (rw [show t433.length = t418.length from (Kd.R_reads' HO_11.out).1.symm] <;> rfl) | rfl | (simp only [List.length_drop, List.length_take]; rfl)) : p := h
theorem zq20 {p : Prop} (h : p := by (with_reducible repeat (first | apply Kd.R_alloc | apply Kd.R_drewN | apply Kd.R_drew)); exact HO414.out) : p := h
theorem zq21 {p : Prop} (h : p := by (with_reducible repeat (first | apply Kd.R_alloc | apply Kd.R_drewN | apply Kd.R_drew)); exact Kd.R_mono HO_416002.out (fun _ hk => ⟨hk.1.1, hk.1.2⟩)) : p := h
theorem zq22 {p : Prop} (h : p := by (with_reducible repeat (first | apply Kd.R_alloc | apply Kd.R_drewN | apply Kd.R_drew)); exact Kd.R_mono HO_11.out (fun _ hk => ⟨hk.1, hk.2.1⟩)) : p := h
theorem zq23 {p : Prop} (h : p := by (with_reducible repeat (first | apply Kd.R_alloc | apply Kd.R_drewN | apply Kd.R_drew)); exact Kd.R_mono HO_8.out (fun _ hk => ⟨hk.1, hk.2.1⟩)) : p := h
theorem zq24 {p : Prop} (h : p := by first | rfl | (simp; done) | (simp [*]; done)) : p := h
theorem zq25 {p : Prop} (h : p := by (with_reducible repeat (first | apply Kd.R_alloc | apply Kd.R_drewN | apply Kd.R_drew)); exact HO439.out) : p := h
theorem zq26 {p : Prop} (h : p := by rw [show t433.length = t418.length from (Kd.R_reads' HO_11.out).1.symm]; exact (Kd.R_reads' HO_11.out).2.1) : p := h
theorem zq27 {p : Prop} (h : p := by (try simp only [hl416002_49]); (with_reducible repeat (first | apply Kd.R_alloc | apply Kd.R_drewN | apply Kd.R_drew)); exact Kd.R_mono HO_416002.out (fun _ hk => hk.1.1.2)) : p := h
theorem zq28 {p : Prop} (h : p := by (try simp only [hl416002_49]); (with_reducible repeat (first | apply Kd.R_alloc | apply Kd.R_drewN | apply Kd.R_drew)); exact Kd.R_mono HO_11.out (fun _ hk => hk.1.1.2)) : p := h
theorem zq29 {p : Prop} (h : p := by repeat (first | exact (Kd.R_reads' HO_416002.out).2.2 | (with_reducible refine Kd.C_alloc ?_ _) | (with_reducible refine Kd.C_drewN ?_ _) | (with_reducible refine Kd.C_drew ?_))) : p := h
theorem zq30 {p : Prop} (h : p := by repeat (first | exact (Kd.R_reads' HO444.out).2.2 | (with_reducible refine Kd.C_alloc ?_ _) | (with_reducible refine Kd.C_drewN ?_ _) | (with_reducible refine Kd.C_drew ?_))) : p := h
theorem zq31 {p : Prop} (h : p := by repeat (first | exact (Kd.R_reads' HO427.out).2.2 | (with_reducible refine Kd.C_alloc ?_ _) | (with_reducible refine Kd.C_drewN ?_ _) | (with_reducible refine Kd.C_drew ?_))) : p := h
theorem zq32 {p : Prop} (h : p := by repeat (first | exact (Kd.R_reads' HO420.out).2.2 | (with_reducible refine Kd.C_alloc ?_ _) | (with_reducible refine Kd.C_drewN ?_ _) | (with_reducible refine Kd.C_drew ?_))) : p := h
theorem zq33 {p : Prop} (h : p := by repeat (first | exact (Kd.R_reads' HO408.out).2.2 | (with_reducible refine Kd.C_alloc ?_ _) | (with_reducible refine Kd.C_drewN ?_ _) | (with_reducible refine Kd.C_drew ?_))) : p := h
theorem zq34 {p : Prop} (h : p := by (try simp only [hl416002_49]); (with_reducible repeat (first | refine blk_drewN ?_ _ | refine blk_drew ?_ | refine blk_alloc ?_ _)); exact BK415.out) : p := h
theorem zq35 {p : Prop} (h : p := by (try simp only [hl416002_49]); (with_reducible repeat (first | refine blk_drewN ?_ _ | refine blk_drew ?_ | refine blk_alloc ?_ _)); exact BK397.out) : p := h
theorem zq36 {p : Prop} (h : p := by (try simp only [hl416002_49]); (with_reducible repeat (first | refine blk_drewN ?_ _ | refine blk_drew ?_ | refine blk_alloc ?_ _)); exact BK396.out) : p := h
theorem zq37 {p : Prop} (h : p := by (with_reducible repeat (first | apply Kd.R_alloc | apply Kd.R_drewN | apply Kd.R_drew)); exact Kd.R_mono HO420.out (fun _ hk => ⟨hk.1.2, hk.2⟩)) : p := h
theorem zq38 {p : Prop} (h : p := by (with_reducible repeat (first | apply Kd.R_alloc | apply Kd.R_drewN | apply Kd.R_drew)); exact Kd.R_mono HO414.out (fun _ hk => ⟨hk.1.2, hk.2⟩)) : p := h
theorem zq39 {p : Prop} (h : p := by (with_reducible repeat (first | apply Kd.R_alloc | apply Kd.R_drewN | apply Kd.R_drew)); exact Kd.R_mono HO408.out (fun _ hk => ⟨hk.2, hk.1.2⟩)) : p := h
theorem zq40 {p : Prop} (h : p := by rw [hg]; exact Nat.ne_of_lt (blk_lt (g := gb396) (o := .cells #[.int .i64 a0_0, .int .i64 a0_1, .slice A0_2 l0_2.length c0_2] 24 (0, 0)) zq2)) : p := h
theorem zq41 {p : Prop} (h : p := by rw [hg]; exact Nat.ne_of_gt (blk_lt (g := gb396) (o := .cells #[.int .i64 a0_0, .int .i64 a0_1, .slice A0_2 l0_2.length c0_2] 24 (0, 0)) zq2)) : p := h
/-! ### laws_FnExactFewestOnward: function 4 -/
mutual
def laws_FnExactFewestOnward.j0 : Nat → Int → List Int → Bool → List Int → Bool → Bool → Int → Int → List Int → Int → Int → Int → Int → List Int → Option (Bool)
 | 0, _, _, _, _, _, _, _, _, _, _, _, _, _, _ => none
 | k + 1, x2, x8, x9, x11, x12, x50, x397000, x397001, x397002, x398000, x398001, x416000, x416001, x416002 => if x50 = true then (some false) else ((laws_toBoard.f k x397000 x397001 x397002).bind fun bt423 => ((laws_eqBoard.f k x416000 x416001 x416002 bt423.1 bt423.2.1 bt423.2.2).bind fun t428 => (if t428 = true then ((laws_markBoard.f k x416000 x416001 x416002 1).bind fun bt429 => (if bt429.1 < 0 then (laws_FnExactFewestOnward.j1 k x2 x8 x9 x11 true x397000 x397001 x397002 x398000 x398001) else ((laws_eqIntS.f k x11 x8).bind fun t431 => (if t431 = true then (laws_FnExactFewestOnward.j1 k x2 x8 x9 x11 (x12 != x9) x397000 x397001 x397002 x398000 x398001) else (laws_FnExactFewestOnward.j1 k x2 x8 x9 x11 true x397000 x397001 x397002 x398000 x398001))))) else (some false))))
def laws_FnExactFewestOnward.j1 : Nat → Int → List Int → Bool → List Int → Bool → Int → Int → List Int → Int → Int → Option (Bool)
 | 0, _, _, _, _, _, _, _, _, _, _ => none
 | k + 1, x2, x8, x9, x11, x71, x397000, x397001, x397002, x398000, x398001 => if x71 = true then (some false) else ((laws_markIntS.f k x11 1).bind fun bt432 => ((laws_heldIntS.f k bt432.2 1).bind fun t434 => (if t434 < 0 then (some false) else (if t434 = bt432.1 then ((laws_toBoard.f k x397000 x397001 x397002).bind fun bt435 => ((laws_toLeaper.f x398000 x398001).bind fun bt440 => ((impl_FewestOnward.f k bt435.1 bt435.2.1 bt435.2.2 bt440.1 bt440.2 x2).bind fun bt442 => ((laws_eqIntS.f k bt442.1 x8).bind fun t446 => (if t446 = true then (laws_FnExactFewestOnward.j2 k bt432.2 bt432.1 (bt442.2 != x9)) else (laws_FnExactFewestOnward.j2 k bt432.2 bt432.1 true)))))) else (some false)))))
def laws_FnExactFewestOnward.j2 : Nat → List Int → Int → Bool → Option (Bool)
 | 0, _, _, _ => none
 | k + 1, x11, x14, x100 => if x100 = true then (some false) else ((laws_heldIntS.f k x11 1).bind fun t447 => (if t447 < 0 then (some false) else (if t447 = x14 then (some true) else (some false))))
end
def laws_FnExactFewestOnward.f (k : Nat) (a0_0 : Int) (a0_1 : Int) (l0_2 : List Int) (a1_0 : Int) (a1_1 : Int) (a2 : Int) : Option (Bool) := (laws_szBoard.f a0_0 a0_1 l0_2 1048576).bind fun t398 => (if t398 < 0 then (some true) else ((laws_toBoard.f k a0_0 a0_1 l0_2).bind fun bt399 => ((laws_toLeaper.f a1_0 a1_1).bind fun bt404 => ((spec_FewestOnward.f k bt399.1 bt399.2.1 bt399.2.2 bt404.1 bt404.2 a2).bind fun bt406 => ((laws_toBoard.f k a0_0 a0_1 l0_2).bind fun bt410 => ((laws_toLeaper.f a1_0 a1_1).bind fun bt416 => ((impl_FewestOnward.f k bt410.1 bt410.2.1 bt410.2.2 bt416.1 bt416.2 a2).bind fun bt418 => ((laws_eqIntS.f k bt418.1 bt406.1).bind fun t422 => (if t422 = true then (laws_FnExactFewestOnward.j0 k a2 bt406.1 bt406.2 bt418.1 bt418.2 (bt418.2 != bt406.2) a0_0 a0_1 l0_2 a1_0 a1_1 bt410.1 bt410.2.1 bt410.2.2) else (laws_FnExactFewestOnward.j0 k a2 bt406.1 bt406.2 bt418.1 bt418.2 true a0_0 a0_1 l0_2 a1_0 a1_1 bt410.1 bt410.2.1 bt410.2.2))))))))))
def laws_FnExactFewestOnward.T5 : Bool × List (List Nat × List Nat) := (true, [([], []), ([0], [0]), ([], []), ([2, 1], [2]), ([], []), ([1, 3, 4, 3], [1, 3, 4]), ([5], [5]), ([6], [6]), ([6], [6]), ([7, 5, 0, 1, 2, 3, 4, 5, 6, 7], [7]), ([8, 9, 0, 1, 2, 3, 4, 5, 6, 7, 8, 9], [8])])
def laws_FnExactFewestOnward.B5 : List Nat := [0, 1, 0, 7, 0, 31, 63, 127, 127, 255, 1023]
theorem laws_FnExactFewestOnward.tab5 : rtab .any (opsOf Try.f4 5) = laws_FnExactFewestOnward.T5 := by kernel_rfl
theorem laws_FnExactFewestOnward.bits5 : waitsOk laws_FnExactFewestOnward.T5.2 laws_FnExactFewestOnward.B5 = true := by kernel_rfl
def laws_FnExactFewestOnward.T7 : Bool × List (List Nat × List Nat) := (true, [([], []), ([], []), ([1], [1]), ([], []), ([0, 2, 3, 2], [0, 2, 3]), ([4], [4]), ([5], [5]), ([5], [5]), ([6, 4, 0, 1, 2, 3, 4, 5, 6], [6]), ([7, 8, 0, 1, 2, 3, 4, 5, 6, 7, 8], [7])])
def laws_FnExactFewestOnward.B7 : List Nat := [0, 0, 2, 0, 15, 31, 63, 63, 127, 511]
theorem laws_FnExactFewestOnward.tab7 : rtab .any (opsOf Try.f4 7) = laws_FnExactFewestOnward.T7 := by kernel_rfl
theorem laws_FnExactFewestOnward.bits7 : waitsOk laws_FnExactFewestOnward.T7.2 laws_FnExactFewestOnward.B7 = true := by kernel_rfl
def laws_FnExactFewestOnward.T24 : Bool × List (List Nat × List Nat) := (true, [([], []), ([0], [0]), ([], []), ([2, 1], [2]), ([], []), ([1, 3, 4, 3], [1, 3, 4]), ([5], [5]), ([6], [6]), ([6], [6]), ([7, 5, 0, 1, 2, 3, 4, 5, 6, 7], [7]), ([8, 9, 0, 1, 2, 3, 4, 5, 6, 7, 8, 9], [8])])
def laws_FnExactFewestOnward.B24 : List Nat := [0, 1, 0, 7, 0, 31, 63, 127, 127, 255, 1023]
theorem laws_FnExactFewestOnward.tab24 : rtab .any (opsOf Try.f4 24) = laws_FnExactFewestOnward.T24 := by kernel_rfl
theorem laws_FnExactFewestOnward.bits24 : waitsOk laws_FnExactFewestOnward.T24.2 laws_FnExactFewestOnward.B24 = true := by kernel_rfl
set_option maxHeartbeats 8000000 in
set_option maxRecDepth 100000 in
theorem laws_FnExactFewestOnward.calls (k : Nat) (a0_0 : Int) (a0_1 : Int) (A0_2 : Option Addr) (c0_2 : Nat) (l0_2 : List Int) (a1_0 : Int) (a1_1 : Int) (a2 : Int) (r : Bool) (w : World) (hr0_2 : Kd.C (Kd.int .i64) w A0_2 l0_2.length l0_2) (hc0_2 : l0_2.length ≤ c0_2) (h : laws_FnExactFewestOnward.f k a0_0 a0_1 l0_2 a1_0 a1_1 a2 = some r) :
  Calls Try.prog 4 #[.agg #[.int .i64 a0_0, .int .i64 a0_1, .slice A0_2 l0_2.length c0_2], .agg #[.int .i64 a1_0, .int .i64 a1_1], .int .i64 a2] w fun e w' => e = .returned (.bool r) ∧ Below w.heap.size w w' := by
 have hu24 := Try.underlying24
 have hu26 := Try.underlying26
 have hu30 := Try.underlying30
 have HR0_2 := Aside0.mk hr0_2
 have HC0_2 := Aside0.mk hc0_2
 clear hr0_2 hc0_2
 have HB := Aside0.mk (Below.refl w.heap.size w)
 have H : ((laws_szBoard.f a0_0 a0_1 l0_2 1048576).bind fun t398 => (if t398 < 0 then (some true) else ((laws_toBoard.f k a0_0 a0_1 l0_2).bind fun bt399 => ((laws_toLeaper.f a1_0 a1_1).bind fun bt404 => ((spec_FewestOnward.f k bt399.1 bt399.2.1 bt399.2.2 bt404.1 bt404.2 a2).bind fun bt406 => ((laws_toBoard.f k a0_0 a0_1 l0_2).bind fun bt410 => ((laws_toLeaper.f a1_0 a1_1).bind fun bt416 => ((impl_FewestOnward.f k bt410.1 bt410.2.1 bt410.2.2 bt416.1 bt416.2 a2).bind fun bt418 => ((laws_eqIntS.f k bt418.1 bt406.1).bind fun t422 => (if t422 = true then (laws_FnExactFewestOnward.j0 k a2 bt406.1 bt406.2 bt418.1 bt418.2 (bt418.2 != bt406.2) a0_0 a0_1 l0_2 a1_0 a1_1 bt410.1 bt410.2.1 bt410.2.2) else (laws_FnExactFewestOnward.j0 k a2 bt406.1 bt406.2 bt418.1 bt418.2 true a0_0 a0_1 l0_2 a1_0 a1_1 bt410.1 bt410.2.1 bt410.2.2))))))))))) = some r := h
 clear h
 replace H := Option.bind_eq_some_iff.mp H
 obtain ⟨t398, A40, H⟩ := H
 replace H : (if t398 < 0 then (some true) else ((laws_toBoard.f k a0_0 a0_1 l0_2).bind fun bt399 => ((laws_toLeaper.f a1_0 a1_1).bind fun bt404 => ((spec_FewestOnward.f k bt399.1 bt399.2.1 bt399.2.2 bt404.1 bt404.2 a2).bind fun bt406 => ((laws_toBoard.f k a0_0 a0_1 l0_2).bind fun bt410 => ((laws_toLeaper.f a1_0 a1_1).bind fun bt416 => ((impl_FewestOnward.f k bt410.1 bt410.2.1 bt410.2.2 bt416.1 bt416.2 a2).bind fun bt418 => ((laws_eqIntS.f k bt418.1 bt406.1).bind fun t422 => (if t422 = true then (laws_FnExactFewestOnward.j0 k a2 bt406.1 bt406.2 bt418.1 bt418.2 (bt418.2 != bt406.2) a0_0 a0_1 l0_2 a1_0 a1_1 bt410.1 bt410.2.1 bt410.2.2) else (laws_FnExactFewestOnward.j0 k a2 bt406.1 bt406.2 bt418.1 bt418.2 true a0_0 a0_1 l0_2 a1_0 a1_1 bt410.1 bt410.2.1 bt410.2.2)))))))))) = some r := H
 have A4 := Aside0.mk A40
 clear A40
 by_cases c5 : t398 < 0
 ·rw [if_pos c5] at H
  have c5b0 : decide (t398 < 0) = true := decide_eq_true c5
  clear c5
  obtain rfl := Option.some.inj H
  go_enter Try.func4, Try.ntmps4
  go_wp2_with (first | ((with_reducible refine gate_dst (N := 3) rfl ?_); refine box_event ?hg (N := 3) ?hd (cs := #[.int .i64 a0_0, .int .i64 a0_1, .slice A0_2 l0_2.length c0_2]) (t := 24) ?hr ?_; (case hd => rfl); (case hg => rfl); (case hr => first | (go_simp; done) | (go_simp; rfl)); intro gb396 hg w6 hbox hb; have n0_ := Aside0.mk (below_step zq16 hb); have n1_ := Aside0.mk (hbox); have n2_ := Aside0.mk ((by rw [hg]; exact (below_size zq16) : w.heap.size ≤ gb396)); have n3_ := Aside0.mk ((by rw [hg]; exact (below_size zq16) : w.heap.size ≤ gb396)); clear HB; have HB := n0_; have BK396 := n1_; have GW396 := n2_; have GE396 := n3_; clear n0_ n1_ n2_ n3_; clear hb hbox hg) | ((with_reducible refine gate_dst (N := 4) rfl ?_); refine box_event ?hg (N := 4) ?hd (cs := #[.int .i64 a1_0, .int .i64 a1_1]) (t := 26) ?hr ?_; (case hd => rfl); (case hg => rfl); (case hr => first | (go_simp; done) | (go_simp; rfl)); intro gb397 hg w7 hbox hb; have n0_ := Aside0.mk (blk_below (g := gb396) (o := .cells #[.int .i64 a0_0, .int .i64 a0_1, .slice A0_2 l0_2.length c0_2] 24 (0, 0)) zq2 hb); have n1_ := Aside0.mk (below_step zq15 hb); have n2_ := Aside0.mk (hbox); have n3_ := Aside0.mk ((by rw [hg]; exact (below_size zq15) : w.heap.size ≤ gb397)); have n4_ := Aside0.mk ((by rw [hg]; exact (below_size zq15) : w.heap.size ≤ gb397)); have n5_ := Aside0.mk ((zq40 : gb396 ≠ gb397)); have n6_ := Aside0.mk ((zq41 : gb397 ≠ gb396)); clear BK396; clear HB; have BK396 := n0_; have HB := n1_; have BK397 := n2_; have GW397 := n3_; have GE397 := n4_; have NB396_397 := n5_; have NB397_396 := n6_; clear n0_ n1_ n2_ n3_ n4_ n5_ n6_; clear hb hbox hg; have hnb8 := NB396_397.out; have hnc8 := NB397_396.out; have hcz9_0 : w7.cell? ⟨gb396, 0, none⟩ = some (.int .i64 a0_0) := (blk_cell BK396.out 0).trans rfl; have hcz9_1 : w7.cell? ⟨gb396, 1, none⟩ = some (.int .i64 a0_1) := (blk_cell BK396.out 1).trans rfl; have hcz9_2 : w7.cell? ⟨gb396, 2, none⟩ = some (.slice A0_2 l0_2.length c0_2) := (blk_cell BK396.out 2).trans rfl; have hfz9_0 := blk_frozen BK396.out 0; have hfz9_1 := blk_frozen BK396.out 1; have hfz9_2 := blk_frozen BK396.out 2) | ((with_reducible refine gate_callee (f := 15) rfl ?_); refine goesL_ (some 20) rfl rfl Try.func15 (by kernel_rfl) rfl #[.agg #[.int .i64 a0_0, .int .i64 a0_1, .slice A0_2 l0_2.length c0_2], .int .i64 1048576] rfl zq3 ?_; (with_reducible refine (laws_szBoard.calls a0_0 a0_1 _ _ l0_2 1048576 t398 _ ?side1 ?side2 A4.out).mono ?_); (case side1 => exact zq12); (case side2 => exact HC0_2.out); rintro e w10 ⟨rfl, hb⟩; refine ⟨_, rfl, ?_⟩; have n0_ := Aside0.mk (blk_below (g := gb396) (o := .cells #[.int .i64 a0_0, .int .i64 a0_1, .slice A0_2 l0_2.length c0_2] 24 (0, 0)) zq2 hb); have n1_ := Aside0.mk (blk_below (g := gb397) (o := .cells #[.int .i64 a1_0, .int .i64 a1_1] 26 (0, 0)) zq4 hb); have n2_ := Aside0.mk (below_step zq6 hb); clear BK396; clear BK397; clear HB; have BK396 := n0_; have BK397 := n1_; have HB := n2_; clear n0_ n1_ n2_; (try clear hb); (try clear hb2); (try clear hk); (try clear hi); (try clear hna_); (try clear hnb_)))
  go_ret
  exact ⟨zq13, zq6⟩
 rw [if_neg c5] at H
 have c5b0 : decide (t398 < 0) = false := decide_eq_false c5
 clear c5
 replace H := Option.bind_eq_some_iff.mp H
 obtain ⟨⟨t399, t400, t401⟩, A110, H⟩ := H
 replace H : ((laws_toLeaper.f a1_0 a1_1).bind fun bt404 => ((spec_FewestOnward.f k t399 t400 t401 bt404.1 bt404.2 a2).bind fun bt406 => ((laws_toBoard.f k a0_0 a0_1 l0_2).bind fun bt410 => ((laws_toLeaper.f a1_0 a1_1).bind fun bt416 => ((impl_FewestOnward.f k bt410.1 bt410.2.1 bt410.2.2 bt416.1 bt416.2 a2).bind fun bt418 => ((laws_eqIntS.f k bt418.1 bt406.1).bind fun t422 => (if t422 = true then (laws_FnExactFewestOnward.j0 k a2 bt406.1 bt406.2 bt418.1 bt418.2 (bt418.2 != bt406.2) a0_0 a0_1 l0_2 a1_0 a1_1 bt410.1 bt410.2.1 bt410.2.2) else (laws_FnExactFewestOnward.j0 k a2 bt406.1 bt406.2 bt418.1 bt418.2 true a0_0 a0_1 l0_2 a1_0 a1_1 bt410.1 bt410.2.1 bt410.2.2)))))))) = some r := H
 have A11 := Aside0.mk A110
 clear A110
 replace H := Option.bind_eq_some_iff.mp H
 obtain ⟨⟨t404, t405⟩, A120, H⟩ := H
 replace H : ((spec_FewestOnward.f k t399 t400 t401 t404 t405 a2).bind fun bt406 => ((laws_toBoard.f k a0_0 a0_1 l0_2).bind fun bt410 => ((laws_toLeaper.f a1_0 a1_1).bind fun bt416 => ((impl_FewestOnward.f k bt410.1 bt410.2.1 bt410.2.2 bt416.1 bt416.2 a2).bind fun bt418 => ((laws_eqIntS.f k bt418.1 bt406.1).bind fun t422 => (if t422 = true then (laws_FnExactFewestOnward.j0 k a2 bt406.1 bt406.2 bt418.1 bt418.2 (bt418.2 != bt406.2) a0_0 a0_1 l0_2 a1_0 a1_1 bt410.1 bt410.2.1 bt410.2.2) else (laws_FnExactFewestOnward.j0 k a2 bt406.1 bt406.2 bt418.1 bt418.2 true a0_0 a0_1 l0_2 a1_0 a1_1 bt410.1 bt410.2.1 bt410.2.2))))))) = some r := H
 have A12 := Aside0.mk A120
 clear A120
 replace H := Option.bind_eq_some_iff.mp H
 obtain ⟨⟨t406, t409⟩, A130, H⟩ := H
 replace H : ((laws_toBoard.f k a0_0 a0_1 l0_2).bind fun bt410 => ((laws_toLeaper.f a1_0 a1_1).bind fun bt416 => ((impl_FewestOnward.f k bt410.1 bt410.2.1 bt410.2.2 bt416.1 bt416.2 a2).bind fun bt418 => ((laws_eqIntS.f k bt418.1 t406).bind fun t422 => (if t422 = true then (laws_FnExactFewestOnward.j0 k a2 t406 t409 bt418.1 bt418.2 (bt418.2 != t409) a0_0 a0_1 l0_2 a1_0 a1_1 bt410.1 bt410.2.1 bt410.2.2) else (laws_FnExactFewestOnward.j0 k a2 t406 t409 bt418.1 bt418.2 true a0_0 a0_1 l0_2 a1_0 a1_1 bt410.1 bt410.2.1 bt410.2.2)))))) = some r := H
 have A13 := Aside0.mk A130
 clear A130
 replace H := Option.bind_eq_some_iff.mp H
 obtain ⟨⟨t410, t411, t412⟩, A140, H⟩ := H
 replace H : ((laws_toLeaper.f a1_0 a1_1).bind fun bt416 => ((impl_FewestOnward.f k t410 t411 t412 bt416.1 bt416.2 a2).bind fun bt418 => ((laws_eqIntS.f k bt418.1 t406).bind fun t422 => (if t422 = true then (laws_FnExactFewestOnward.j0 k a2 t406 t409 bt418.1 bt418.2 (bt418.2 != t409) a0_0 a0_1 l0_2 a1_0 a1_1 t410 t411 t412) else (laws_FnExactFewestOnward.j0 k a2 t406 t409 bt418.1 bt418.2 true a0_0 a0_1 l0_2 a1_0 a1_1 t410 t411 t412))))) = some r := H
 have A14 := Aside0.mk A140
 clear A140
 replace H := Option.bind_eq_some_iff.mp H
 obtain ⟨⟨t416, t417⟩, A150, H⟩ := H
 replace H : ((impl_FewestOnward.f k t410 t411 t412 t416 t417 a2).bind fun bt418 => ((laws_eqIntS.f k bt418.1 t406).bind fun t422 => (if t422 = true then (laws_FnExactFewestOnward.j0 k a2 t406 t409 bt418.1 bt418.2 (bt418.2 != t409) a0_0 a0_1 l0_2 a1_0 a1_1 t410 t411 t412) else (laws_FnExactFewestOnward.j0 k a2 t406 t409 bt418.1 bt418.2 true a0_0 a0_1 l0_2 a1_0 a1_1 t410 t411 t412)))) = some r := H
 have A15 := Aside0.mk A150
 clear A150
 replace H := Option.bind_eq_some_iff.mp H
 obtain ⟨⟨t418, t421⟩, A160, H⟩ := H
 replace H : ((laws_eqIntS.f k t418 t406).bind fun t422 => (if t422 = true then (laws_FnExactFewestOnward.j0 k a2 t406 t409 t418 t421 (t421 != t409) a0_0 a0_1 l0_2 a1_0 a1_1 t410 t411 t412) else (laws_FnExactFewestOnward.j0 k a2 t406 t409 t418 t421 true a0_0 a0_1 l0_2 a1_0 a1_1 t410 t411 t412))) = some r := H
 have A16 := Aside0.mk A160
 clear A160
 have HC17 := Aside0.mk H
 clear H
 go_enter Try.func4, Try.ntmps4
 try go_wp2_with (first | ((with_reducible refine gate_dst (N := 3) rfl ?_); refine box_event ?hg (N := 3) ?hd (cs := #[.int .i64 a0_0, .int .i64 a0_1, .slice A0_2 l0_2.length c0_2]) (t := 24) ?hr ?_; (case hd => rfl); (case hg => rfl); (case hr => first | (go_simp; done) | (go_simp; rfl)); intro gb396 hg w18 hbox hb; have n0_ := Aside0.mk (below_step zq16 hb); have n1_ := Aside0.mk (hbox); have n2_ := Aside0.mk ((by rw [hg]; exact (below_size zq16) : w.heap.size ≤ gb396)); have n3_ := Aside0.mk ((by rw [hg]; exact (below_size zq16) : w.heap.size ≤ gb396)); clear HB; have HB := n0_; have BK396 := n1_; have GW396 := n2_; have GE396 := n3_; clear n0_ n1_ n2_ n3_; clear hb hbox hg) | ((with_reducible refine gate_dst (N := 4) rfl ?_); refine box_event ?hg (N := 4) ?hd (cs := #[.int .i64 a1_0, .int .i64 a1_1]) (t := 26) ?hr ?_; (case hd => rfl); (case hg => rfl); (case hr => first | (go_simp; done) | (go_simp; rfl)); intro gb397 hg w19 hbox hb; have n0_ := Aside0.mk (blk_below (g := gb396) (o := .cells #[.int .i64 a0_0, .int .i64 a0_1, .slice A0_2 l0_2.length c0_2] 24 (0, 0)) zq2 hb); have n1_ := Aside0.mk (below_step zq15 hb); have n2_ := Aside0.mk (hbox); have n3_ := Aside0.mk ((by rw [hg]; exact (below_size zq15) : w.heap.size ≤ gb397)); have n4_ := Aside0.mk ((by rw [hg]; exact (below_size zq15) : w.heap.size ≤ gb397)); have n5_ := Aside0.mk ((zq40 : gb396 ≠ gb397)); have n6_ := Aside0.mk ((zq41 : gb397 ≠ gb396)); clear BK396; clear HB; have BK396 := n0_; have HB := n1_; have BK397 := n2_; have GW397 := n3_; have GE397 := n4_; have NB396_397 := n5_; have NB397_396 := n6_; clear n0_ n1_ n2_ n3_ n4_ n5_ n6_; clear hb hbox hg; have hnb20 := NB396_397.out; have hnc20 := NB397_396.out; have hcz21_0 : w19.cell? ⟨gb396, 0, none⟩ = some (.int .i64 a0_0) := (blk_cell BK396.out 0).trans rfl; have hcz21_1 : w19.cell? ⟨gb396, 1, none⟩ = some (.int .i64 a0_1) := (blk_cell BK396.out 1).trans rfl; have hcz21_2 : w19.cell? ⟨gb396, 2, none⟩ = some (.slice A0_2 l0_2.length c0_2) := (blk_cell BK396.out 2).trans rfl; have hfz21_0 := blk_frozen BK396.out 0; have hfz21_1 := blk_frozen BK396.out 1; have hfz21_2 := blk_frozen BK396.out 2) | ((with_reducible refine gate_callee (f := 15) rfl ?_); refine goesL_ (some 20) rfl rfl Try.func15 (by kernel_rfl) rfl #[.agg #[.int .i64 a0_0, .int .i64 a0_1, .slice A0_2 l0_2.length c0_2], .int .i64 1048576] rfl zq3 ?_; (with_reducible refine (laws_szBoard.calls a0_0 a0_1 _ _ l0_2 1048576 t398 _ ?side1 ?side2 A4.out).mono ?_); (case side1 => exact zq12); (case side2 => exact HC0_2.out); rintro e w22 ⟨rfl, hb⟩; refine ⟨_, rfl, ?_⟩; have n0_ := Aside0.mk (blk_below (g := gb396) (o := .cells #[.int .i64 a0_0, .int .i64 a0_1, .slice A0_2 l0_2.length c0_2] 24 (0, 0)) zq2 hb); have n1_ := Aside0.mk (blk_below (g := gb397) (o := .cells #[.int .i64 a1_0, .int .i64 a1_1] 26 (0, 0)) zq4 hb); have n2_ := Aside0.mk (below_step zq6 hb); clear BK396; clear BK397; clear HB; have BK396 := n0_; have BK397 := n1_; have HB := n2_; clear n0_ n1_ n2_; (try clear hb); (try clear hb2); (try clear hk); (try clear hi); (try clear hna_); (try clear hnb_)))
 have n0_ := Aside0.mk (blk_drew BK396.out)
 have n1_ := Aside0.mk (blk_drew BK397.out)
 have n2_ := Aside0.mk (below_drew1 HB.out)
 clear BK396
 clear BK397
 clear HB
 have BK396 := n0_
 have BK397 := n1_
 have HB := n2_
 clear n0_ n1_ n2_
 refine start_ (n := 11) (S := fun w' => w'.cell? ⟨gb396, 0, none⟩ = some (.int .i64 a0_0) ∧ w'.cell? ⟨gb396, 1, none⟩ = some (.int .i64 a0_1) ∧ w'.cell? ⟨gb396, 2, none⟩ = some (.slice A0_2 l0_2.length c0_2) ∧ w'.cell? ⟨gb397, 0, none⟩ = some (.int .i64 a1_0) ∧ w'.cell? ⟨gb397, 1, none⟩ = some (.int .i64 a1_1)) (ds := []) #[false, false, false, false, false, false, false, false, false, false, false] (by kernel_rfl) rfl rfl ⟨(blk_cell BK396.out 0).trans rfl, (blk_cell BK396.out 1).trans rfl, (blk_cell BK396.out 2).trans rfl, (blk_cell BK397.out 0).trans rfl, (blk_cell BK397.out 1).trans rfl⟩ (fun hHeld => ?_); refine with_tabW laws_FnExactFewestOnward.tab5 laws_FnExactFewestOnward.bits5 (fun HT_ HW_ => ?_)
 generalize w22.drew = w23 at BK396 BK397 HB hHeld ⊢
 refine pure_ (i := 4) (N := some 28) (v := ?_) (a' := ?_) #[false, false, false, false, true, false, false, false, false, false, false] rfl rfl (any_of HT_.out (by kernel_rfl)) (fun _ _ _ h => h) (Or.inl ⟨by rfl, ?_⟩) ?_ ?_
 rotate_left
 ·intro w'
  go_simp
  with_reducible rfl
 rotate_left
 ·simp only [Act.put, List.setIfInBounds_toArray, List.set_cons_zero, List.set_cons_succ, i64_w, i32_w]
  rfl
 refine take_ (i := 0) (N := some 24) (v := ?_) (a' := ?_) #[true, false, false, false, true, false, false, false, false, false, false] rfl rfl (take_ofW HT_.out HW_.out (by kernel_rfl)) (fun _ _ _ h => h) (Or.inl ⟨by rfl, ?_⟩) hHeld ?_ ?_
 rotate_left
 ·rintro w' ⟨s0, s1, s2, s3, s4⟩
  go_simp
  with_reducible rfl
 rotate_left
 ·simp only [Act.put, List.setIfInBounds_toArray, List.set_cons_zero, List.set_cons_succ, i64_w, i32_w]
  rfl
 refine take_ (i := 2) (N := some 26) (v := ?_) (a' := ?_) #[true, false, true, false, true, false, false, false, false, false, false] rfl rfl (take_ofW HT_.out HW_.out (by kernel_rfl)) (fun _ _ _ h => h) (Or.inl ⟨by rfl, ?_⟩) hHeld ?_ ?_
 rotate_left
 ·rintro w' ⟨s0, s1, s2, s3, s4⟩
  go_simp
  with_reducible rfl
 rotate_left
 ·simp only [Act.put, List.setIfInBounds_toArray, List.set_cons_zero, List.set_cons_succ, i64_w, i32_w]
  rfl
 refine one_ (i := 1) (N := some 25) #[true, true, true, false, true, false, false, false, false, false, false] rfl rfl (one_of HT_.out (by kernel_rfl)) (by decide) (fun K hK => ?_)
 refine goes_ Try.func17 (by kernel_rfl) rfl #[.agg #[.int .i64 a0_0, .int .i64 a0_1, .slice A0_2 l0_2.length c0_2]] (by rfl) rfl rfl zq3 ?_
 with_reducible refine (laws_toBoard.calls k a0_0 a0_1 _ _ l0_2 t399 t400 t401 _ ?side1 ?side2 A11.out).mono ?_
 (case side1 => exact zq12)
 (case side2 => exact HC0_2.out)
 rintro e w24 ⟨v402, rfl, ho0, hb⟩
 refine ⟨_, rfl, ?_⟩
 have n0_ := Aside0.mk (Kd.R_lower ho0 (below_size zq6))
 have n1_ := Aside0.mk (blk_below (g := gb396) (o := .cells #[.int .i64 a0_0, .int .i64 a0_1, .slice A0_2 l0_2.length c0_2] 24 (0, 0)) zq2 hb)
 have n2_ := Aside0.mk (blk_below (g := gb397) (o := .cells #[.int .i64 a1_0, .int .i64 a1_1] 26 (0, 0)) zq4 hb)
 have n3_ := Aside0.mk (below_step zq6 hb)
 clear BK396
 clear BK397
 clear HB
 have HO403 := n0_
 have BK396 := n1_
 have BK397 := n2_
 have HB := n3_
 clear n0_ n1_ n2_ n3_
 (try clear hb)
 (try clear hb2)
 (try clear hk)
 (try clear hi)
 (try clear ho0)
 (try clear hna_)
 (try clear hnb_)
 refine hK.out _ _ ⟨(blk_cell BK396.out 0).trans rfl, (blk_cell BK396.out 1).trans rfl, (blk_cell BK396.out 2).trans rfl, (blk_cell BK397.out 0).trans rfl, (blk_cell BK397.out 1).trans rfl⟩ (fun hHeld => ?_)
 clear hK K
 refine norm_ (a' := ?_) ?_ ?_
 rotate_left
 ·show Act.put _ (some 25) _ = _
  simp only [Act.put, List.setIfInBounds_toArray, List.set_cons_zero, List.set_cons_succ, i64_w, i32_w]
  rfl
 refine one_ (i := 3) (N := some 27) #[true, true, true, true, true, false, false, false, false, false, false] rfl rfl (one_of HT_.out (by kernel_rfl)) (by decide) (fun K hK => ?_)
 refine goes_ Try.func18 (by kernel_rfl) rfl #[.agg #[.int .i64 a1_0, .int .i64 a1_1]] (by rfl) rfl rfl zq3 ?_
 with_reducible refine (laws_toLeaper.calls a1_0 a1_1 t404 t405 _ A12.out).mono ?_
 rintro e w25 ⟨rfl, hb⟩
 refine ⟨_, rfl, ?_⟩
 have n0_ := Aside0.mk (Kd.R_below zq14 hb)
 have n1_ := Aside0.mk (blk_below (g := gb396) (o := .cells #[.int .i64 a0_0, .int .i64 a0_1, .slice A0_2 l0_2.length c0_2] 24 (0, 0)) zq2 hb)
 have n2_ := Aside0.mk (blk_below (g := gb397) (o := .cells #[.int .i64 a1_0, .int .i64 a1_1] 26 (0, 0)) zq4 hb)
 have n3_ := Aside0.mk (below_step zq6 hb)
 clear HO403
 clear BK396
 clear BK397
 clear HB
 have HO403 := n0_
 have BK396 := n1_
 have BK397 := n2_
 have HB := n3_
 clear n0_ n1_ n2_ n3_
 (try clear hb)
 (try clear hb2)
 (try clear hk)
 (try clear hi)
 (try clear hna_)
 (try clear hnb_)
 obtain ⟨Ao26, co26, eo26⟩ := Kd.R_slice HO403.out
 (first | subst eo26 | (injection eo26 with f1_ f2_ f3_; have f4_ := f1_.symm; have f5_ := f3_.symm; clear f1_ f2_ f3_; subst f4_; subst f5_))
 refine hK.out _ _ ⟨(blk_cell BK396.out 0).trans rfl, (blk_cell BK396.out 1).trans rfl, (blk_cell BK396.out 2).trans rfl, (blk_cell BK397.out 0).trans rfl, (blk_cell BK397.out 1).trans rfl⟩ (fun hHeld => ?_)
 clear hK K
 refine norm_ (a' := ?_) ?_ ?_
 rotate_left
 ·show Act.put _ (some 27) _ = _
  simp only [Act.put, List.setIfInBounds_toArray, List.set_cons_zero, List.set_cons_succ, i64_w, i32_w]
  rfl
 refine one_ (i := 5) (N := some 29) #[true, true, true, true, true, true, false, false, false, false, false] rfl rfl (one_of HT_.out (by kernel_rfl)) (by decide) (fun K hK => ?_)
 refine goes_ Try.func26 (by kernel_rfl) rfl #[.agg #[.int .i64 t399, .int .i64 t400, .slice Ao26 t401.length co26], .agg #[.int .i64 t404, .int .i64 t405], .int .i64 a2] (by rfl) rfl rfl zq3 ?_
 with_reducible refine (spec_FewestOnward.calls k t399 t400 _ _ t401 t404 t405 a2 t406 t409 _ ?side1 ?side2 A13.out).mono ?_
 (case side1 => repeat (first | exact (Kd.R_reads' HO403.out).2.2 | (with_reducible refine Kd.C_alloc ?_ _) | (with_reducible refine Kd.C_drewN ?_ _) | (with_reducible refine Kd.C_drew ?_)))
 (case side2 => exact (Kd.R_reads' HO403.out).2.1)
 rintro e w27 ⟨v407, rfl, ho0, hb⟩
 refine ⟨_, rfl, ?_⟩
 have n0_ := Aside0.mk (Kd.R_elder' zq14 (Kd.R_base ho0) hb)
 have n1_ := Aside0.mk (Kd.R_lower (Kd.R_new' ho0 (Kd.R_lt zq14)) (below_size zq6))
 have n2_ := Aside0.mk (blk_below (g := gb396) (o := .cells #[.int .i64 a0_0, .int .i64 a0_1, .slice A0_2 l0_2.length c0_2] 24 (0, 0)) zq2 hb)
 have n3_ := Aside0.mk (blk_below (g := gb397) (o := .cells #[.int .i64 a1_0, .int .i64 a1_1] 26 (0, 0)) zq4 hb)
 have n4_ := Aside0.mk (below_step zq6 hb)
 clear HO403
 clear BK396
 clear BK397
 clear HB
 have HO403 := n0_
 have HO408 := n1_
 have BK396 := n2_
 have BK397 := n3_
 have HB := n4_
 clear n0_ n1_ n2_ n3_ n4_
 (try clear hb)
 (try clear hb2)
 (try clear hk)
 (try clear hi)
 (try clear ho0)
 (try clear hna_)
 (try clear hnb_)
 refine hK.out _ _ ⟨(blk_cell BK396.out 0).trans rfl, (blk_cell BK396.out 1).trans rfl, (blk_cell BK396.out 2).trans rfl, (blk_cell BK397.out 0).trans rfl, (blk_cell BK397.out 1).trans rfl⟩ (fun hHeld => ?_)
 clear hK K
 refine norm_ (a' := ?_) ?_ ?_
 rotate_left
 ·show Act.put _ (some 29) _ = _
  simp only [Act.put, List.setIfInBounds_toArray, List.set_cons_zero, List.set_cons_succ, i64_w, i32_w]
  rfl
 refine pure_ (i := 6) (N := some 23) (v := ?_) (a' := ?_) #[true, true, true, true, true, true, true, false, false, false, false] rfl rfl (any_of HT_.out (by kernel_rfl)) (fun _ _ _ h => h) (Or.inl ⟨by rfl, ?_⟩) ?_ ?_
 rotate_left
 ·intro w'
  go_simp
  with_reducible rfl
 rotate_left
 ·simp only [Act.put, List.setIfInBounds_toArray, List.set_cons_zero, List.set_cons_succ, i64_w, i32_w]
  rfl
 refine pure_ (i := 7) (N := some 30) (v := ?_) (a' := ?_) #[true, true, true, true, true, true, true, true, false, false, false] rfl rfl (any_of HT_.out (by kernel_rfl)) (fun _ _ _ h => h) (Or.inl ⟨by rfl, ?_⟩) ?_ ?_
 rotate_left
 ·intro w'
  go_simp
  with_reducible rfl
 rotate_left
 ·simp only [Act.put, List.setIfInBounds_toArray, List.set_cons_zero, List.set_cons_succ, i64_w, i32_w]
  rfl
 refine pure_ (i := 8) (N := some 31) (v := ?_) (a' := ?_) #[true, true, true, true, true, true, true, true, true, false, false] rfl rfl (any_of HT_.out (by kernel_rfl)) (fun _ _ _ h => h) (Or.inl ⟨by rfl, ?_⟩) ?_ ?_
 rotate_left
 ·intro w'
  go_simp
  with_reducible rfl
 rotate_left
 ·simp only [Act.put, List.setIfInBounds_toArray, List.set_cons_zero, List.set_cons_succ, i64_w, i32_w]
  rfl
 refine pure_ (i := 9) (N := some 8) (v := ?_) (a' := ?_) #[true, true, true, true, true, true, true, true, true, true, false] rfl rfl (any_of HT_.out (by kernel_rfl)) (fun _ _ _ h => h) (Or.inl ⟨by rfl, ?_⟩) ?_ ?_
 rotate_left
 ·intro w'
  go_simp
  with_reducible rfl
 rotate_left
 ·simp only [Act.put, List.setIfInBounds_toArray, List.set_cons_zero, List.set_cons_succ, i64_w, i32_w]
  rfl
 refine pure_ (i := 10) (N := some 9) (v := ?_) (a' := ?_) #[true, true, true, true, true, true, true, true, true, true, true] rfl rfl (any_of HT_.out (by kernel_rfl)) (fun _ _ _ h => h) (Or.inl ⟨by rfl, ?_⟩) ?_ ?_
 rotate_left
 ·intro w'
  go_simp
  with_reducible rfl
 rotate_left
 ·simp only [Act.put, List.setIfInBounds_toArray, List.set_cons_zero, List.set_cons_succ, i64_w, i32_w]
  rfl
 refine done_ (done_of HT_.out (by kernel_rfl)) ?_
 have hcz28_0 : w27.cell? ⟨gb396, 0, none⟩ = some (.int .i64 a0_0) := (blk_cell BK396.out 0).trans rfl
 have hcz28_1 : w27.cell? ⟨gb396, 1, none⟩ = some (.int .i64 a0_1) := (blk_cell BK396.out 1).trans rfl
 have hcz28_2 : w27.cell? ⟨gb396, 2, none⟩ = some (.slice A0_2 l0_2.length c0_2) := (blk_cell BK396.out 2).trans rfl
 have hfz28_0 := blk_frozen BK396.out 0
 have hfz28_1 := blk_frozen BK396.out 1
 have hfz28_2 := blk_frozen BK396.out 2
 try go_wp2_with (first | ((with_reducible refine gate_callee (f := 17) rfl ?_); refine goesL_ (some 33) rfl rfl Try.func17 (by kernel_rfl) rfl #[.agg #[.int .i64 a0_0, .int .i64 a0_1, .slice A0_2 l0_2.length c0_2]] rfl zq3 ?_; (with_reducible refine (laws_toBoard.calls k a0_0 a0_1 _ _ l0_2 t410 t411 t412 _ ?side1 ?side2 A14.out).mono ?_); (case side1 => exact zq12); (case side2 => exact HC0_2.out); rintro e w29 ⟨v413, rfl, ho0, hb⟩; refine ⟨_, rfl, ?_⟩; have n0_ := Aside0.mk (Kd.R_elder' zq14 (Kd.R_base ho0) hb); have n1_ := Aside0.mk (Kd.R_elder' zq17 (Kd.R_base ho0) hb); have n2_ := Aside0.mk (Kd.R_lower (Kd.R_new' (Kd.R_new' ho0 (Kd.R_lt zq14)) (Kd.R_lt zq17)) (below_size zq6)); have n3_ := Aside0.mk (blk_below (g := gb396) (o := .cells #[.int .i64 a0_0, .int .i64 a0_1, .slice A0_2 l0_2.length c0_2] 24 (0, 0)) zq2 hb); have n4_ := Aside0.mk (blk_below (g := gb397) (o := .cells #[.int .i64 a1_0, .int .i64 a1_1] 26 (0, 0)) zq4 hb); have n5_ := Aside0.mk (below_step zq6 hb); clear HO403; clear HO408; clear BK396; clear BK397; clear HB; have HO403 := n0_; have HO408 := n1_; have HO414 := n2_; have BK396 := n3_; have BK397 := n4_; have HB := n5_; clear n0_ n1_ n2_ n3_ n4_ n5_; (try clear hb); (try clear hb2); (try clear hk); (try clear hi); (try clear ho0); (try clear hna_); (try clear hnb_)) | ((with_reducible refine gate_dst (N := 10) rfl ?_); refine box_event ?hg (N := 10) ?hd (cs := #[.int .i64 0, .int .i64 0, .slice none 0 0]) (t := 30) ?hr ?_; (case hd => rfl); (case hg => rfl); (case hr => first | (go_simp; done) | (go_simp; rfl)); intro gb415 hg w30 hbox hb; have n0_ := Aside0.mk (Kd.R_below zq14 hb); have n1_ := Aside0.mk (Kd.R_below zq17 hb); have n2_ := Aside0.mk (Kd.R_below zq20 hb); have n3_ := Aside0.mk (blk_below (g := gb396) (o := .cells #[.int .i64 a0_0, .int .i64 a0_1, .slice A0_2 l0_2.length c0_2] 24 (0, 0)) zq2 hb); have n4_ := Aside0.mk (blk_below (g := gb397) (o := .cells #[.int .i64 a1_0, .int .i64 a1_1] 26 (0, 0)) zq4 hb); have n5_ := Aside0.mk (below_step zq6 hb); have n6_ := Aside0.mk (hbox); have n7_ := Aside0.mk ((by rw [hg]; exact (below_size zq6) : w.heap.size ≤ gb415)); have n8_ := Aside0.mk ((by rw [hg]; exact (below_size zq6) : w.heap.size ≤ gb415)); have n9_ := Aside0.mk ((zq40 : gb396 ≠ gb415)); have n10_ := Aside0.mk ((zq41 : gb415 ≠ gb396)); have n11_ := Aside0.mk ((by rw [hg]; exact Nat.ne_of_lt (blk_lt (g := gb397) (o := .cells #[.int .i64 a1_0, .int .i64 a1_1] 26 (0, 0)) zq4) : gb397 ≠ gb415)); have n12_ := Aside0.mk ((by rw [hg]; exact Nat.ne_of_gt (blk_lt (g := gb397) (o := .cells #[.int .i64 a1_0, .int .i64 a1_1] 26 (0, 0)) zq4) : gb415 ≠ gb397)); clear HO403; clear HO408; clear HO414; clear BK396; clear BK397; clear HB; have HO403 := n0_; have HO408 := n1_; have HO414 := n2_; have BK396 := n3_; have BK397 := n4_; have HB := n5_; have BK415 := n6_; have GW415 := n7_; have GE415 := n8_; have NB396_415 := n9_; have NB415_396 := n10_; have NB397_415 := n11_; have NB415_397 := n12_; clear n0_ n1_ n2_ n3_ n4_ n5_ n6_ n7_ n8_ n9_ n10_ n11_ n12_; clear hb hbox hg; have hnb31 := NB415_396.out; have hnc31 := NB396_415.out; have hnb32 := NB415_397.out; have hnc32 := NB397_415.out; have hcz33_0 : w30.cell? ⟨gb415, 0, none⟩ = some (.int .i64 0) := (blk_cell BK415.out 0).trans rfl; have hcz33_1 : w30.cell? ⟨gb415, 1, none⟩ = some (.int .i64 0) := (blk_cell BK415.out 1).trans rfl; have hcz33_2 : w30.cell? ⟨gb415, 2, none⟩ = some (.slice none 0 0) := (blk_cell BK415.out 2).trans rfl; have hfz33_0 := blk_frozen BK415.out 0; have hfz33_1 := blk_frozen BK415.out 1; have hfz33_2 := blk_frozen BK415.out 2; obtain ⟨Ao34, co34, eo34⟩ := Kd.R_slice HO414.out; subst eo34))
 have n0_ : Aside0 (Kd.R (Kd.int .i64) 3 (((w30.setCell ⟨gb415, 0, none⟩ (.int .i64 t410)).setCell ⟨gb415, 1, none⟩ (.int .i64 t411)).setCell ⟨gb415, 2, none⟩ (.slice Ao34 t412.length co34)) w.heap.size (fun k_ => some k_ ≠ (v407 : Value).ownBlock ∧ some k_ ≠ (.slice Ao34 t412.length co34 : Value).ownBlock) (.slice Ao26 t401.length co26) t401) := ⟨by (with_reducible repeat (first | apply Kd.R_alloc | apply Kd.R_drewN | apply Kd.R_drew)); exact Kd.R_mono (Kd.R_far (p := ⟨gb415, 2, none⟩) (Kd.R_far (p := ⟨gb415, 1, none⟩) (Kd.R_far (p := ⟨gb415, 0, none⟩) (Kd.R_types HO403.out BK415.out (by decide)) (fun _ hk => hk.2) (.int .i64 t410)) (fun _ hk => hk.2) (.int .i64 t411)) (fun _ hk => hk.2) (.slice Ao34 t412.length co34)) (fun _ hk => ⟨hk.1.1.2, hk.1.2⟩)⟩
 have n1_ : Aside0 (Kd.R (Kd.int .i64) 3 (((w30.setCell ⟨gb415, 0, none⟩ (.int .i64 t410)).setCell ⟨gb415, 1, none⟩ (.int .i64 t411)).setCell ⟨gb415, 2, none⟩ (.slice Ao34 t412.length co34)) w.heap.size (fun k_ => some k_ ≠ (.slice Ao26 t401.length co26 : Value).ownBlock ∧ some k_ ≠ (.slice Ao34 t412.length co34 : Value).ownBlock) v407 t406) := ⟨by (with_reducible repeat (first | apply Kd.R_alloc | apply Kd.R_drewN | apply Kd.R_drew)); exact Kd.R_mono (Kd.R_far (p := ⟨gb415, 2, none⟩) (Kd.R_far (p := ⟨gb415, 1, none⟩) (Kd.R_far (p := ⟨gb415, 0, none⟩) (Kd.R_types HO408.out BK415.out (by decide)) (fun _ hk => hk.2) (.int .i64 t410)) (fun _ hk => hk.2) (.int .i64 t411)) (fun _ hk => hk.2) (.slice Ao34 t412.length co34)) (fun _ hk => ⟨hk.1.1.2, hk.1.2⟩)⟩
 have n2_ : Aside0 (Kd.R (Kd.int .i64) 3 (((w30.setCell ⟨gb415, 0, none⟩ (.int .i64 t410)).setCell ⟨gb415, 1, none⟩ (.int .i64 t411)).setCell ⟨gb415, 2, none⟩ (.slice Ao34 t412.length co34)) w.heap.size (fun k_ => some k_ ≠ (.slice Ao26 t401.length co26 : Value).ownBlock ∧ some k_ ≠ (v407 : Value).ownBlock) (.slice Ao34 t412.length co34) t412) := ⟨by (with_reducible repeat (first | apply Kd.R_alloc | apply Kd.R_drewN | apply Kd.R_drew)); exact Kd.R_mono (Kd.R_far (p := ⟨gb415, 2, none⟩) (Kd.R_far (p := ⟨gb415, 1, none⟩) (Kd.R_far (p := ⟨gb415, 0, none⟩) (Kd.R_types HO414.out BK415.out (by decide)) (fun _ hk => hk.2) (.int .i64 t410)) (fun _ hk => hk.2) (.int .i64 t411)) (fun _ hk => hk.2) (.slice Ao34 t412.length co34)) (fun _ hk => ⟨hk.1.1.2, hk.1.2⟩)⟩
 have n3_ : Aside0 ((((w30.setCell ⟨gb415, 0, none⟩ (.int .i64 t410)).setCell ⟨gb415, 1, none⟩ (.int .i64 t411)).setCell ⟨gb415, 2, none⟩ (.slice Ao34 t412.length co34)).heap[gb396]? = some (.cells #[.int .i64 a0_0, .int .i64 a0_1, .slice A0_2 l0_2.length c0_2] 24 (0, 0))) := ⟨by (with_reducible repeat (first | refine blk_drewN ?_ _ | refine blk_drew ?_ | refine blk_alloc ?_ _)); refine blk_far ?_ NB396_415.out _; (with_reducible repeat (first | refine blk_drewN ?_ _ | refine blk_drew ?_ | refine blk_alloc ?_ _)); refine blk_far ?_ NB396_415.out _; (with_reducible repeat (first | refine blk_drewN ?_ _ | refine blk_drew ?_ | refine blk_alloc ?_ _)); refine blk_far ?_ NB396_415.out _; (with_reducible repeat (first | refine blk_drewN ?_ _ | refine blk_drew ?_ | refine blk_alloc ?_ _)); exact BK396.out⟩
 have n4_ : Aside0 ((((w30.setCell ⟨gb415, 0, none⟩ (.int .i64 t410)).setCell ⟨gb415, 1, none⟩ (.int .i64 t411)).setCell ⟨gb415, 2, none⟩ (.slice Ao34 t412.length co34)).heap[gb397]? = some (.cells #[.int .i64 a1_0, .int .i64 a1_1] 26 (0, 0))) := ⟨by (with_reducible repeat (first | refine blk_drewN ?_ _ | refine blk_drew ?_ | refine blk_alloc ?_ _)); refine blk_far ?_ NB397_415.out _; (with_reducible repeat (first | refine blk_drewN ?_ _ | refine blk_drew ?_ | refine blk_alloc ?_ _)); refine blk_far ?_ NB397_415.out _; (with_reducible repeat (first | refine blk_drewN ?_ _ | refine blk_drew ?_ | refine blk_alloc ?_ _)); refine blk_far ?_ NB397_415.out _; (with_reducible repeat (first | refine blk_drewN ?_ _ | refine blk_drew ?_ | refine blk_alloc ?_ _)); exact BK397.out⟩
 have n5_ : Aside0 ((((w30.setCell ⟨gb415, 0, none⟩ (.int .i64 t410)).setCell ⟨gb415, 1, none⟩ (.int .i64 t411)).setCell ⟨gb415, 2, none⟩ (.slice Ao34 t412.length co34)).heap[gb415]? = some (.cells #[.int .i64 t410, .int .i64 t411, .slice Ao34 t412.length co34] 30 (0, 0))) := ⟨by (with_reducible repeat (first | refine blk_drewN ?_ _ | refine blk_drew ?_ | refine blk_alloc ?_ _)); refine blk_put (cs := #[.int .i64 t410, .int .i64 t411, .slice none 0 0]) ?_ 2 _ rfl; (with_reducible repeat (first | refine blk_drewN ?_ _ | refine blk_drew ?_ | refine blk_alloc ?_ _)); refine blk_put (cs := #[.int .i64 t410, .int .i64 0, .slice none 0 0]) ?_ 1 _ rfl; (with_reducible repeat (first | refine blk_drewN ?_ _ | refine blk_drew ?_ | refine blk_alloc ?_ _)); refine blk_put (cs := #[.int .i64 0, .int .i64 0, .slice none 0 0]) ?_ 0 _ rfl; (with_reducible repeat (first | refine blk_drewN ?_ _ | refine blk_drew ?_ | refine blk_alloc ?_ _)); exact BK415.out⟩
 have n6_ : Aside0 (Below w.heap.size w (((w30.setCell ⟨gb415, 0, none⟩ (.int .i64 t410)).setCell ⟨gb415, 1, none⟩ (.int .i64 t411)).setCell ⟨gb415, 2, none⟩ (.slice Ao34 t412.length co34))) := ⟨zq1⟩
 (try clear HO403)
 (try clear HO408)
 (try clear HO414)
 (try clear BK396)
 (try clear BK397)
 (try clear BK415)
 (try clear HB)
 generalize (((w30.setCell ⟨gb415, 0, none⟩ (.int .i64 t410)).setCell ⟨gb415, 1, none⟩ (.int .i64 t411)).setCell ⟨gb415, 2, none⟩ (.slice Ao34 t412.length co34)) = w35 at n0_ n1_ n2_ n3_ n4_ n5_ n6_ ⊢
 have HO403 := n0_
 have HO408 := n1_
 have HO414 := n2_
 have BK396 := n3_
 have BK397 := n4_
 have BK415 := n5_
 have HB := n6_
 clear n0_ n1_ n2_ n3_ n4_ n5_ n6_
 have n0_ := Aside0.mk (Kd.R_drew HO403.out)
 have n1_ := Aside0.mk (Kd.R_drew HO408.out)
 have n2_ := Aside0.mk (Kd.R_drew HO414.out)
 have n3_ := Aside0.mk (blk_drew BK396.out)
 have n4_ := Aside0.mk (blk_drew BK397.out)
 have n5_ := Aside0.mk (blk_drew BK415.out)
 have n6_ := Aside0.mk (below_drew1 HB.out)
 clear HO403
 clear HO408
 clear HO414
 clear BK396
 clear BK397
 clear BK415
 clear HB
 have HO403 := n0_
 have HO408 := n1_
 have HO414 := n2_
 have BK396 := n3_
 have BK397 := n4_
 have BK415 := n5_
 have HB := n6_
 clear n0_ n1_ n2_ n3_ n4_ n5_ n6_
 refine start_ (n := 10) (S := fun w' => w'.cell? ⟨gb415, 0, none⟩ = some (.int .i64 t410) ∧ w'.cell? ⟨gb415, 1, none⟩ = some (.int .i64 t411) ∧ w'.cell? ⟨gb415, 2, none⟩ = some (.slice Ao34 t412.length co34) ∧ w'.cell? ⟨gb397, 0, none⟩ = some (.int .i64 a1_0) ∧ w'.cell? ⟨gb397, 1, none⟩ = some (.int .i64 a1_1)) (ds := []) #[false, false, false, false, false, false, false, false, false, false] (by kernel_rfl) rfl rfl ⟨(blk_cell BK415.out 0).trans rfl, (blk_cell BK415.out 1).trans rfl, (blk_cell BK415.out 2).trans rfl, (blk_cell BK397.out 0).trans rfl, (blk_cell BK397.out 1).trans rfl⟩ (fun hHeld => ?_); refine with_tabW laws_FnExactFewestOnward.tab7 laws_FnExactFewestOnward.bits7 (fun HT_ HW_ => ?_)
 generalize w35.drew = w36 at HO403 HO408 HO414 BK396 BK397 BK415 HB hHeld ⊢
 refine pure_ (i := 3) (N := some 38) (v := ?_) (a' := ?_) #[false, false, false, true, false, false, false, false, false, false] rfl rfl (any_of HT_.out (by kernel_rfl)) (fun _ _ _ h => h) (Or.inl ⟨by rfl, ?_⟩) ?_ ?_
 rotate_left
 ·intro w'
  go_simp
  with_reducible rfl
 rotate_left
 ·simp only [Act.put, List.setIfInBounds_toArray, List.set_cons_zero, List.set_cons_succ, i64_w, i32_w]
  rfl
 refine take_ (i := 0) (N := some 35) (v := ?_) (a' := ?_) #[true, false, false, true, false, false, false, false, false, false] rfl rfl (take_ofW HT_.out HW_.out (by kernel_rfl)) (fun _ _ _ h => h) (Or.inl ⟨by rfl, ?_⟩) hHeld ?_ ?_
 rotate_left
 ·rintro w' ⟨s0, s1, s2, s3, s4⟩
  go_simp
  with_reducible rfl
 rotate_left
 ·simp only [Act.put, List.setIfInBounds_toArray, List.set_cons_zero, List.set_cons_succ, i64_w, i32_w]
  rfl
 refine take_ (i := 1) (N := some 36) (v := ?_) (a' := ?_) #[true, true, false, true, false, false, false, false, false, false] rfl rfl (take_ofW HT_.out HW_.out (by kernel_rfl)) (fun _ _ _ h => h) (Or.inl ⟨by rfl, ?_⟩) hHeld ?_ ?_
 rotate_left
 ·rintro w' ⟨s0, s1, s2, s3, s4⟩
  go_simp
  with_reducible rfl
 rotate_left
 ·simp only [Act.put, List.setIfInBounds_toArray, List.set_cons_zero, List.set_cons_succ, i64_w, i32_w]
  rfl
 refine one_ (i := 2) (N := some 37) #[true, true, true, true, false, false, false, false, false, false] rfl rfl (one_of HT_.out (by kernel_rfl)) (by decide) (fun K hK => ?_)
 refine goes_ Try.func18 (by kernel_rfl) rfl #[.agg #[.int .i64 a1_0, .int .i64 a1_1]] (by rfl) rfl rfl zq3 ?_
 with_reducible refine (laws_toLeaper.calls a1_0 a1_1 t416 t417 _ A15.out).mono ?_
 rintro e w37 ⟨rfl, hb⟩
 refine ⟨_, rfl, ?_⟩
 have n0_ := Aside0.mk (Kd.R_below zq14 hb)
 have n1_ := Aside0.mk (Kd.R_below zq17 hb)
 have n2_ := Aside0.mk (Kd.R_below zq20 hb)
 have n3_ := Aside0.mk (blk_below (g := gb396) (o := .cells #[.int .i64 a0_0, .int .i64 a0_1, .slice A0_2 l0_2.length c0_2] 24 (0, 0)) zq2 hb)
 have n4_ := Aside0.mk (blk_below (g := gb397) (o := .cells #[.int .i64 a1_0, .int .i64 a1_1] 26 (0, 0)) zq4 hb)
 have n5_ := Aside0.mk (blk_below (g := gb415) (o := .cells #[.int .i64 t410, .int .i64 t411, .slice Ao34 t412.length co34] 30 (0, 0)) zq7 hb)
 have n6_ := Aside0.mk (below_step zq1 hb)
 clear HO403
 clear HO408
 clear HO414
 clear BK396
 clear BK397
 clear BK415
 clear HB
 have HO403 := n0_
 have HO408 := n1_
 have HO414 := n2_
 have BK396 := n3_
 have BK397 := n4_
 have BK415 := n5_
 have HB := n6_
 clear n0_ n1_ n2_ n3_ n4_ n5_ n6_
 (try clear hb)
 (try clear hb2)
 (try clear hk)
 (try clear hi)
 (try clear hna_)
 (try clear hnb_)
 refine hK.out _ _ ⟨(blk_cell BK415.out 0).trans rfl, (blk_cell BK415.out 1).trans rfl, (blk_cell BK415.out 2).trans rfl, (blk_cell BK397.out 0).trans rfl, (blk_cell BK397.out 1).trans rfl⟩ (fun hHeld => ?_)
 clear hK K
 refine norm_ (a' := ?_) ?_ ?_
 rotate_left
 ·show Act.put _ (some 37) _ = _
  simp only [Act.put, List.setIfInBounds_toArray, List.set_cons_zero, List.set_cons_succ, i64_w, i32_w]
  rfl
 refine one_ (i := 4) (N := some 39) #[true, true, true, true, true, false, false, false, false, false] rfl rfl (one_of HT_.out (by kernel_rfl)) (by decide) (fun K hK => ?_)
 refine goes_ Try.func27 (by kernel_rfl) rfl #[.agg #[.int .i64 t410, .int .i64 t411, .slice Ao34 t412.length co34], .agg #[.int .i64 t416, .int .i64 t417], .int .i64 a2] (by rfl) rfl rfl zq3 ?_
 with_reducible refine (impl_FewestOnward.calls k t410 t411 _ _ t412 t416 t417 a2 t418 t421 _ ?side1 ?side2 A16.out).mono ?_
 (case side1 => repeat (first | exact (Kd.R_reads' HO414.out).2.2 | (with_reducible refine Kd.C_alloc ?_ _) | (with_reducible refine Kd.C_drewN ?_ _) | (with_reducible refine Kd.C_drew ?_)))
 (case side2 => exact (Kd.R_reads' HO414.out).2.1)
 rintro e w38 ⟨v419, rfl, ho0, hb⟩
 refine ⟨_, rfl, ?_⟩
 have n0_ := Aside0.mk (Kd.R_elder' zq14 (Kd.R_base ho0) hb)
 have n1_ := Aside0.mk (Kd.R_elder' zq17 (Kd.R_base ho0) hb)
 have n2_ := Aside0.mk (Kd.R_elder' zq20 (Kd.R_base ho0) hb)
 have n3_ := Aside0.mk (Kd.R_lower (Kd.R_new' (Kd.R_new' (Kd.R_new' ho0 (Kd.R_lt zq14)) (Kd.R_lt zq17)) (Kd.R_lt zq20)) (below_size zq1))
 have n4_ := Aside0.mk (blk_below (g := gb396) (o := .cells #[.int .i64 a0_0, .int .i64 a0_1, .slice A0_2 l0_2.length c0_2] 24 (0, 0)) zq2 hb)
 have n5_ := Aside0.mk (blk_below (g := gb397) (o := .cells #[.int .i64 a1_0, .int .i64 a1_1] 26 (0, 0)) zq4 hb)
 have n6_ := Aside0.mk (blk_below (g := gb415) (o := .cells #[.int .i64 t410, .int .i64 t411, .slice Ao34 t412.length co34] 30 (0, 0)) zq7 hb)
 have n7_ := Aside0.mk (below_step zq1 hb)
 clear HO403
 clear HO408
 clear HO414
 clear BK396
 clear BK397
 clear BK415
 clear HB
 have HO403 := n0_
 have HO408 := n1_
 have HO414 := n2_
 have HO420 := n3_
 have BK396 := n4_
 have BK397 := n5_
 have BK415 := n6_
 have HB := n7_
 clear n0_ n1_ n2_ n3_ n4_ n5_ n6_ n7_
 (try clear hb)
 (try clear hb2)
 (try clear hk)
 (try clear hi)
 (try clear ho0)
 (try clear hna_)
 (try clear hnb_)
 refine hK.out _ _ ⟨(blk_cell BK415.out 0).trans rfl, (blk_cell BK415.out 1).trans rfl, (blk_cell BK415.out 2).trans rfl, (blk_cell BK397.out 0).trans rfl, (blk_cell BK397.out 1).trans rfl⟩ (fun hHeld => ?_)
 clear hK K
 refine norm_ (a' := ?_) ?_ ?_
 rotate_left
 ·show Act.put _ (some 39) _ = _
  simp only [Act.put, List.setIfInBounds_toArray, List.set_cons_zero, List.set_cons_succ, i64_w, i32_w]
  rfl
 refine pure_ (i := 5) (N := some 34) (v := ?_) (a' := ?_) #[true, true, true, true, true, true, false, false, false, false] rfl rfl (any_of HT_.out (by kernel_rfl)) (fun _ _ _ h => h) (Or.inl ⟨by rfl, ?_⟩) ?_ ?_
 rotate_left
 ·intro w'
  go_simp
  with_reducible rfl
 rotate_left
 ·simp only [Act.put, List.setIfInBounds_toArray, List.set_cons_zero, List.set_cons_succ, i64_w, i32_w]
  rfl
 refine pure_ (i := 6) (N := some 40) (v := ?_) (a' := ?_) #[true, true, true, true, true, true, true, false, false, false] rfl rfl (any_of HT_.out (by kernel_rfl)) (fun _ _ _ h => h) (Or.inl ⟨by rfl, ?_⟩) ?_ ?_
 rotate_left
 ·intro w'
  go_simp
  with_reducible rfl
 rotate_left
 ·simp only [Act.put, List.setIfInBounds_toArray, List.set_cons_zero, List.set_cons_succ, i64_w, i32_w]
  rfl
 refine pure_ (i := 7) (N := some 41) (v := ?_) (a' := ?_) #[true, true, true, true, true, true, true, true, false, false] rfl rfl (any_of HT_.out (by kernel_rfl)) (fun _ _ _ h => h) (Or.inl ⟨by rfl, ?_⟩) ?_ ?_
 rotate_left
 ·intro w'
  go_simp
  with_reducible rfl
 rotate_left
 ·simp only [Act.put, List.setIfInBounds_toArray, List.set_cons_zero, List.set_cons_succ, i64_w, i32_w]
  rfl
 refine pure_ (i := 8) (N := some 11) (v := ?_) (a' := ?_) #[true, true, true, true, true, true, true, true, true, false] rfl rfl (any_of HT_.out (by kernel_rfl)) (fun _ _ _ h => h) (Or.inl ⟨by rfl, ?_⟩) ?_ ?_
 rotate_left
 ·intro w'
  go_simp
  with_reducible rfl
 rotate_left
 ·simp only [Act.put, List.setIfInBounds_toArray, List.set_cons_zero, List.set_cons_succ, i64_w, i32_w]
  rfl
 refine pure_ (i := 9) (N := some 12) (v := ?_) (a' := ?_) #[true, true, true, true, true, true, true, true, true, true] rfl rfl (any_of HT_.out (by kernel_rfl)) (fun _ _ _ h => h) (Or.inl ⟨by rfl, ?_⟩) ?_ ?_
 rotate_left
 ·intro w'
  go_simp
  with_reducible rfl
 rotate_left
 ·simp only [Act.put, List.setIfInBounds_toArray, List.set_cons_zero, List.set_cons_succ, i64_w, i32_w]
  rfl
 refine done_ (done_of HT_.out (by kernel_rfl)) ?_
 go_upto_region 8 with (fail)
 go_cut [50] (fun v50 wc => ∃ (kq : Nat) (x50_16 : Bool), v50 = .bool x50_16 ∧ Aside0 (laws_FnExactFewestOnward.j0 kq a2 t406 t409 t418 t421 x50_16 a0_0 a0_1 l0_2 a1_0 a1_1 t410 t411 t412 = some r) ∧ Aside0 (kq ≤ k) ∧ Aside0 (Kd.R (Kd.int .i64) 3 wc w.heap.size (fun k_ => some k_ ≠ (v419 : Value).ownBlock ∧ some k_ ≠ ((.slice Ao34 t412.length co34) : Value).ownBlock) v407 t406) ∧ Aside0 (Kd.R (Kd.int .i64) 3 wc w.heap.size (fun k_ => some k_ ≠ (v407 : Value).ownBlock ∧ some k_ ≠ ((.slice Ao34 t412.length co34) : Value).ownBlock) v419 t418) ∧ Aside0 (Kd.R (Kd.int .i64) 3 wc w.heap.size (fun k_ => some k_ ≠ (v407 : Value).ownBlock ∧ some k_ ≠ (v419 : Value).ownBlock) (.slice Ao34 t412.length co34) t412) ∧ Aside0 (wc.heap[gb396]? = some (.cells #[.int .i64 a0_0, .int .i64 a0_1, (.slice A0_2 l0_2.length c0_2)] 24 (0, 0))) ∧ Aside0 (wc.heap[gb397]? = some (.cells #[.int .i64 a1_0, .int .i64 a1_1] 26 (0, 0))) ∧ Aside0 (wc.heap[gb415]? = some (.cells #[.int .i64 t410, .int .i64 t411, (.slice Ao34 t412.length co34)] 30 (0, 0))) ∧ Aside0 (Below w.heap.size w wc))
 case first =>
  have H := HC17.out
  clear HC17
  replace H := Option.bind_eq_some_iff.mp H
  obtain ⟨t422, A390, H⟩ := H
  replace H : (if t422 = true then (laws_FnExactFewestOnward.j0 k a2 t406 t409 t418 t421 (t421 != t409) a0_0 a0_1 l0_2 a1_0 a1_1 t410 t411 t412) else (laws_FnExactFewestOnward.j0 k a2 t406 t409 t418 t421 true a0_0 a0_1 l0_2 a1_0 a1_1 t410 t411 t412)) = some r := H
  have A39 := Aside0.mk A390
  clear A390
  by_cases c40 : t422 = true
  ·subst c40
   have H1 : (laws_FnExactFewestOnward.j0 k a2 t406 t409 t418 t421 (t421 != t409) a0_0 a0_1 l0_2 a1_0 a1_1 t410 t411 t412) = some r := by rw [if_pos rfl] at H; exact H
   clear H
   have H := H1
   clear H1
   have H' := Aside0.mk H
   clear H
   obtain ⟨Ao41, co41, eo41⟩ := Kd.R_slice HO420.out
   subst eo41
   obtain ⟨Ao42, co42, eo42⟩ := Kd.R_slice HO408.out
   subst eo42
   go_wp2_with (first | ((with_reducible refine gate_callee (f := 21) rfl ?_); refine goesL_ (some 44) rfl rfl Try.func21 (by kernel_rfl) rfl #[.slice Ao41 t418.length co41, .slice Ao42 t406.length co42] rfl zq3 ?_; (with_reducible refine (laws_eqIntS.calls k _ _ t418 _ _ t406 true _ ?side1 ?side2 ?side3 ?side4 A39.out).mono ?_); (case side1 => exact zq32); (case side2 => exact (Kd.R_reads' HO420.out).2.1); (case side3 => exact zq33); (case side4 => exact (Kd.R_reads' HO408.out).2.1); rintro e w' ⟨rfl, ⟨nd, rfl⟩⟩; refine ⟨_, rfl, ?_⟩))
   go_meet
   case rel => exact ⟨_, ((t421 != t409)), zq24, H', ⟨by first | omega | exact Nat.le_refl _⟩, ⟨zq39⟩, ⟨zq37⟩, ⟨zq38⟩, ⟨zq2⟩, ⟨zq4⟩, ⟨zq7⟩, ⟨zq1⟩⟩
  replace c40 := Bool.eq_false_iff.mpr c40
  subst c40
  have H1 : (laws_FnExactFewestOnward.j0 k a2 t406 t409 t418 t421 true a0_0 a0_1 l0_2 a1_0 a1_1 t410 t411 t412) = some r := by rw [if_neg (show ¬ (false = true) by decide)] at H; exact H
  clear H
  have H := H1
  clear H1
  have H' := Aside0.mk H
  clear H
  obtain ⟨Ao43, co43, eo43⟩ := Kd.R_slice HO420.out
  subst eo43
  obtain ⟨Ao44, co44, eo44⟩ := Kd.R_slice HO408.out
  subst eo44
  go_wp2_with (first | ((with_reducible refine gate_callee (f := 21) rfl ?_); refine goesL_ (some 44) rfl rfl Try.func21 (by kernel_rfl) rfl #[.slice Ao43 t418.length co43, .slice Ao44 t406.length co44] rfl zq3 ?_; (with_reducible refine (laws_eqIntS.calls k _ _ t418 _ _ t406 false _ ?side1 ?side2 ?side3 ?side4 A39.out).mono ?_); (case side1 => exact zq32); (case side2 => exact (Kd.R_reads' HO420.out).2.1); (case side3 => exact zq33); (case side4 => exact (Kd.R_reads' HO408.out).2.1); rintro e w' ⟨rfl, ⟨nd, rfl⟩⟩; refine ⟨_, rfl, ?_⟩))
  go_meet
  case rel => exact ⟨_, (true), zq24, H', ⟨by first | omega | exact Nat.le_refl _⟩, ⟨zq39⟩, ⟨zq37⟩, ⟨zq38⟩, ⟨zq2⟩, ⟨zq4⟩, ⟨zq7⟩, ⟨zq1⟩⟩
 case rest =>
  clear HC17
  try clear c1; try clear c2; try clear p2; try clear c3; try clear c4; try clear c5; try clear c5b0; try clear c8; try clear c15; try clear c17; try clear c18; try clear c20; try clear c21; try clear c26; try clear c27; try clear c31; try clear c32; try clear c40; try clear hcz21_0; try clear hcz21_1; try clear hcz21_2; try clear hcz28_0; try clear hcz28_1; try clear hcz28_2; try clear hcz33_0; try clear hcz33_1; try clear hcz33_2; try clear hcz9_0; try clear hcz9_1; try clear hcz9_2; try clear hfz21_0; try clear hfz21_1; try clear hfz21_2; try clear hfz28_0; try clear hfz28_1; try clear hfz28_2
  try clear hfz33_0; try clear hfz33_1; try clear hfz33_2; try clear hfz9_0; try clear hfz9_1; try clear hfz9_2
  obtain ⟨kq, x50_16, rfl, HA, HJ16, HO_8, HO_11, HO_416002, BK396, BK397, BK415, HB⟩ := hcut
  cases kq with
  | zero => exact absurd HA.out (by simp [laws_FnExactFewestOnward.j0])
  | succ kj16 =>
   have H := HA.out
   clear HA
   simp only [laws_FnExactFewestOnward.j0] at H
   by_cases c45 : x50_16 = true
   ·subst c45
    have H1 : (some false) = some r := by rw [if_pos rfl] at H; exact H
    clear H
    have H := H1
    clear H1
    obtain rfl := Option.some.inj H
    go_wp2
    go_ret
    exact ⟨zq13, zq1⟩
   replace c45 := Bool.eq_false_iff.mpr c45
   subst c45
   have H1 : ((laws_toBoard.f kj16 a0_0 a0_1 l0_2).bind fun bt423 => ((laws_eqBoard.f kj16 t410 t411 t412 bt423.1 bt423.2.1 bt423.2.2).bind fun t428 => (if t428 = true then ((laws_markBoard.f kj16 t410 t411 t412 1).bind fun bt429 => (if bt429.1 < 0 then (laws_FnExactFewestOnward.j1 kj16 a2 t406 t409 t418 true a0_0 a0_1 l0_2 a1_0 a1_1) else ((laws_eqIntS.f kj16 t418 t406).bind fun t431 => (if t431 = true then (laws_FnExactFewestOnward.j1 kj16 a2 t406 t409 t418 (t421 != t409) a0_0 a0_1 l0_2 a1_0 a1_1) else (laws_FnExactFewestOnward.j1 kj16 a2 t406 t409 t418 true a0_0 a0_1 l0_2 a1_0 a1_1))))) else (some false)))) = some r := by rw [if_neg (show ¬ (false = true) by decide)] at H; exact H
   clear H
   have H := H1
   clear H1
   replace H := Option.bind_eq_some_iff.mp H
   obtain ⟨⟨t423, t424, t425⟩, A460, H⟩ := H
   replace H : ((laws_eqBoard.f kj16 t410 t411 t412 t423 t424 t425).bind fun t428 => (if t428 = true then ((laws_markBoard.f kj16 t410 t411 t412 1).bind fun bt429 => (if bt429.1 < 0 then (laws_FnExactFewestOnward.j1 kj16 a2 t406 t409 t418 true a0_0 a0_1 l0_2 a1_0 a1_1) else ((laws_eqIntS.f kj16 t418 t406).bind fun t431 => (if t431 = true then (laws_FnExactFewestOnward.j1 kj16 a2 t406 t409 t418 (t421 != t409) a0_0 a0_1 l0_2 a1_0 a1_1) else (laws_FnExactFewestOnward.j1 kj16 a2 t406 t409 t418 true a0_0 a0_1 l0_2 a1_0 a1_1))))) else (some false))) = some r := H
   have A46 := Aside0.mk A460
   clear A460
   replace H := Option.bind_eq_some_iff.mp H
   obtain ⟨t428, A470, H⟩ := H
   replace H : (if t428 = true then ((laws_markBoard.f kj16 t410 t411 t412 1).bind fun bt429 => (if bt429.1 < 0 then (laws_FnExactFewestOnward.j1 kj16 a2 t406 t409 t418 true a0_0 a0_1 l0_2 a1_0 a1_1) else ((laws_eqIntS.f kj16 t418 t406).bind fun t431 => (if t431 = true then (laws_FnExactFewestOnward.j1 kj16 a2 t406 t409 t418 (t421 != t409) a0_0 a0_1 l0_2 a1_0 a1_1) else (laws_FnExactFewestOnward.j1 kj16 a2 t406 t409 t418 true a0_0 a0_1 l0_2 a1_0 a1_1))))) else (some false)) = some r := H
   have A47 := Aside0.mk A470
   clear A470
   by_cases c48 : t428 = true
   rotate_left
   ·replace c48 := Bool.eq_false_iff.mpr c48
    subst c48
    have H1 : (some false) = some r := by rw [if_neg (show ¬ (false = true) by decide)] at H; exact H
    clear H
    have H := H1
    clear H1
    obtain rfl := Option.some.inj H
    try go_wp2
    have n0_ := Aside0.mk (Kd.R_drew HO_8.out)
    have n1_ := Aside0.mk (Kd.R_drew HO_11.out)
    have n2_ := Aside0.mk (Kd.R_drew HO_416002.out)
    have n3_ := Aside0.mk (blk_drew BK396.out)
    have n4_ := Aside0.mk (blk_drew BK397.out)
    have n5_ := Aside0.mk (blk_drew BK415.out)
    have n6_ := Aside0.mk (below_drew1 HB.out)
    clear HO_8
    clear HO_11
    clear HO_416002
    clear BK396
    clear BK397
    clear BK415
    clear HB
    have HO_8 := n0_
    have HO_11 := n1_
    have HO_416002 := n2_
    have BK396 := n3_
    have BK397 := n4_
    have BK415 := n5_
    have HB := n6_
    clear n0_ n1_ n2_ n3_ n4_ n5_ n6_
    refine start_ (n := 5) (S := fun w' => w'.cell? ⟨gb415, 0, none⟩ = some (.int .i64 t410) ∧ w'.cell? ⟨gb415, 1, none⟩ = some (.int .i64 t411) ∧ w'.cell? ⟨gb415, 2, none⟩ = some (.slice Ao34 t412.length co34) ∧ w'.cell? ⟨gb396, 0, none⟩ = some (.int .i64 a0_0) ∧ w'.cell? ⟨gb396, 1, none⟩ = some (.int .i64 a0_1) ∧ w'.cell? ⟨gb396, 2, none⟩ = some (.slice A0_2 l0_2.length c0_2)) (ds := []) #[false, false, false, false, false] (by kernel_rfl) rfl rfl ⟨(blk_cell BK415.out 0).trans rfl, (blk_cell BK415.out 1).trans rfl, (blk_cell BK415.out 2).trans rfl, (blk_cell BK396.out 0).trans rfl, (blk_cell BK396.out 1).trans rfl, (blk_cell BK396.out 2).trans rfl⟩ (fun hHeld => ?_)
    generalize wc.drew = w96 at HO_8 HO_11 HO_416002 BK396 BK397 BK415 HB hHeld ⊢
    refine take_ (i := 0) (N := some 51) (v := ?_) (a' := ?_) #[true, false, false, false, false] rfl rfl (by kernel_rfl) (fun _ _ _ h => h) (Or.inl ⟨by rfl, ?_⟩) hHeld ?_ ?_
    rotate_left
    ·rintro w' ⟨s0, s1, s2, s3, s4, s5⟩
     go_simp
     with_reducible rfl
    rotate_left
    ·simp only [Act.put, List.setIfInBounds_toArray, List.set_cons_zero, List.set_cons_succ, i64_w, i32_w]
     rfl
    refine take_ (i := 1) (N := some 52) (v := ?_) (a' := ?_) #[true, true, false, false, false] rfl rfl (by kernel_rfl) (fun _ _ _ h => h) (Or.inl ⟨by rfl, ?_⟩) hHeld ?_ ?_
    rotate_left
    ·rintro w' ⟨s0, s1, s2, s3, s4, s5⟩
     go_simp
     with_reducible rfl
    rotate_left
    ·simp only [Act.put, List.setIfInBounds_toArray, List.set_cons_zero, List.set_cons_succ, i64_w, i32_w]
     rfl
    refine one_ (i := 2) (N := some 53) #[true, true, true, false, false] rfl rfl (by kernel_rfl) (by decide) (fun K hK => ?_)
    refine goes_ Try.func17 (by kernel_rfl) rfl #[.agg #[.int .i64 a0_0, .int .i64 a0_1, .slice A0_2 l0_2.length c0_2]] (by rfl) rfl rfl zq3 ?_
    with_reducible refine (laws_toBoard.calls kj16 a0_0 a0_1 _ _ l0_2 t423 t424 t425 _ ?side1 ?side2 A46.out).mono ?_
    (case side1 => exact zq12)
    (case side2 => exact HC0_2.out)
    rintro e w97 ⟨v426, rfl, ho0, hb⟩
    refine ⟨_, rfl, ?_⟩
    have n0_ := Aside0.mk (Kd.R_elder' zq11 (Kd.R_base ho0) hb)
    have n1_ := Aside0.mk (Kd.R_elder' zq10 (Kd.R_base ho0) hb)
    have n2_ := Aside0.mk (Kd.R_elder' zq8 (Kd.R_base ho0) hb)
    have n3_ := Aside0.mk (Kd.R_lower (Kd.R_new' (Kd.R_new' (Kd.R_new' ho0 (Kd.R_lt zq11)) (Kd.R_lt zq10)) (Kd.R_lt zq8)) (below_size zq1))
    have n4_ := Aside0.mk (blk_below (g := gb396) (o := .cells #[.int .i64 a0_0, .int .i64 a0_1, .slice A0_2 l0_2.length c0_2] 24 (0, 0)) zq2 hb)
    have n5_ := Aside0.mk (blk_below (g := gb397) (o := .cells #[.int .i64 a1_0, .int .i64 a1_1] 26 (0, 0)) zq4 hb)
    have n6_ := Aside0.mk (blk_below (g := gb415) (o := .cells #[.int .i64 t410, .int .i64 t411, .slice Ao34 t412.length co34] 30 (0, 0)) zq7 hb)
    have n7_ := Aside0.mk (below_step zq1 hb)
    clear HO_8
    clear HO_11
    clear HO_416002
    clear BK396
    clear BK397
    clear BK415
    clear HB
    have HO_8 := n0_
    have HO_11 := n1_
    have HO_416002 := n2_
    have HO427 := n3_
    have BK396 := n4_
    have BK397 := n5_
    have BK415 := n6_
    have HB := n7_
    clear n0_ n1_ n2_ n3_ n4_ n5_ n6_ n7_
    (try clear hb)
    (try clear hb2)
    (try clear hk)
    (try clear hi)
    (try clear ho0)
    (try clear hna_)
    (try clear hnb_)
    obtain ⟨Ao98, co98, eo98⟩ := Kd.R_slice HO427.out
    (first | subst eo98 | (injection eo98 with f1_ f2_ f3_; have f4_ := f1_.symm; have f5_ := f3_.symm; clear f1_ f2_ f3_; subst f4_; subst f5_))
    refine hK.out _ _ ⟨(blk_cell BK415.out 0).trans rfl, (blk_cell BK415.out 1).trans rfl, (blk_cell BK415.out 2).trans rfl, (blk_cell BK396.out 0).trans rfl, (blk_cell BK396.out 1).trans rfl, (blk_cell BK396.out 2).trans rfl⟩ (fun hHeld => ?_)
    clear hK K
    refine norm_ (a' := ?_) ?_ ?_
    rotate_left
    ·show Act.put _ (some 53) _ = _
     simp only [Act.put, List.setIfInBounds_toArray, List.set_cons_zero, List.set_cons_succ, i64_w, i32_w]
     rfl
    refine one_ (i := 3) (N := some 54) #[true, true, true, true, false] rfl rfl (by kernel_rfl) (by decide) (fun K hK => ?_)
    refine goes_ Try.func22 (by kernel_rfl) rfl #[.agg #[.int .i64 t410, .int .i64 t411, .slice Ao34 t412.length co34], .agg #[.int .i64 t423, .int .i64 t424, .slice Ao98 t425.length co98]] (by rfl) rfl rfl zq3 ?_
    with_reducible refine (laws_eqBoard.calls kj16 t410 t411 _ _ t412 t423 t424 _ _ t425 false _ ?side1 ?side2 ?side3 ?side4 A47.out).mono ?_
    (case side1 => exact zq29)
    (case side2 => exact (Kd.R_reads' HO_416002.out).2.1)
    (case side3 => exact zq31)
    (case side4 => exact (Kd.R_reads' HO427.out).2.1)
    rintro e w99 ⟨rfl, hb⟩
    refine ⟨_, rfl, ?_⟩
    have n0_ := Aside0.mk (Kd.R_below zq11 hb)
    have n1_ := Aside0.mk (Kd.R_below zq10 hb)
    have n2_ := Aside0.mk (Kd.R_below zq8 hb)
    have n3_ := Aside0.mk (Kd.R_below (by (with_reducible repeat (first | apply Kd.R_alloc | apply Kd.R_drewN | apply Kd.R_drew)); exact HO427.out) hb)
    have n4_ := Aside0.mk (blk_below (g := gb396) (o := .cells #[.int .i64 a0_0, .int .i64 a0_1, .slice A0_2 l0_2.length c0_2] 24 (0, 0)) zq2 hb)
    have n5_ := Aside0.mk (blk_below (g := gb397) (o := .cells #[.int .i64 a1_0, .int .i64 a1_1] 26 (0, 0)) zq4 hb)
    have n6_ := Aside0.mk (blk_below (g := gb415) (o := .cells #[.int .i64 t410, .int .i64 t411, .slice Ao34 t412.length co34] 30 (0, 0)) zq7 hb)
    have n7_ := Aside0.mk (below_step zq1 hb)
    clear HO_8
    clear HO_11
    clear HO_416002
    clear HO427
    clear BK396
    clear BK397
    clear BK415
    clear HB
    have HO_8 := n0_
    have HO_11 := n1_
    have HO_416002 := n2_
    have HO427 := n3_
    have BK396 := n4_
    have BK397 := n5_
    have BK415 := n6_
    have HB := n7_
    clear n0_ n1_ n2_ n3_ n4_ n5_ n6_ n7_
    (try clear hb)
    (try clear hb2)
    (try clear hk)
    (try clear hi)
    (try clear hna_)
    (try clear hnb_)
    refine hK.out _ _ ⟨(blk_cell BK415.out 0).trans rfl, (blk_cell BK415.out 1).trans rfl, (blk_cell BK415.out 2).trans rfl, (blk_cell BK396.out 0).trans rfl, (blk_cell BK396.out 1).trans rfl, (blk_cell BK396.out 2).trans rfl⟩ (fun hHeld => ?_)
    clear hK K
    refine norm_ (a' := ?_) ?_ ?_
    rotate_left
    ·show Act.put _ (some 54) _ = _
     simp only [Act.put, List.setIfInBounds_toArray, List.set_cons_zero, List.set_cons_succ, i64_w, i32_w]
     rfl
    refine pure_ (i := 4) (N := some 55) (v := ?_) (a' := ?_) #[true, true, true, true, true] rfl rfl (by kernel_rfl) (fun _ _ _ h => h) (Or.inl ⟨by rfl, ?_⟩) ?_ ?_
    rotate_left
    ·intro w'
     go_simp
     with_reducible rfl
    rotate_left
    ·simp only [Act.put, List.setIfInBounds_toArray, List.set_cons_zero, List.set_cons_succ, i64_w, i32_w]
     rfl
    refine done_ (by kernel_rfl) ?_
    try go_wp2
    go_ret
    exact ⟨zq13, zq1⟩
   subst c48
   have H1 : ((laws_markBoard.f kj16 t410 t411 t412 1).bind fun bt429 => (if bt429.1 < 0 then (laws_FnExactFewestOnward.j1 kj16 a2 t406 t409 t418 true a0_0 a0_1 l0_2 a1_0 a1_1) else ((laws_eqIntS.f kj16 t418 t406).bind fun t431 => (if t431 = true then (laws_FnExactFewestOnward.j1 kj16 a2 t406 t409 t418 (t421 != t409) a0_0 a0_1 l0_2 a1_0 a1_1) else (laws_FnExactFewestOnward.j1 kj16 a2 t406 t409 t418 true a0_0 a0_1 l0_2 a1_0 a1_1))))) = some r := by rw [if_pos rfl] at H; exact H
   clear H
   have H := H1
   clear H1
   replace H := Option.bind_eq_some_iff.mp H
   obtain ⟨⟨t429, t430⟩, A490, H⟩ := H
   replace H : (if t429 < 0 then (laws_FnExactFewestOnward.j1 kj16 a2 t406 t409 t418 true a0_0 a0_1 l0_2 a1_0 a1_1) else ((laws_eqIntS.f kj16 t418 t406).bind fun t431 => (if t431 = true then (laws_FnExactFewestOnward.j1 kj16 a2 t406 t409 t418 (t421 != t409) a0_0 a0_1 l0_2 a1_0 a1_1) else (laws_FnExactFewestOnward.j1 kj16 a2 t406 t409 t418 true a0_0 a0_1 l0_2 a1_0 a1_1)))) = some r := H
   have A49 := Aside0.mk A490
   clear A490
   have HC50 := Aside0.mk H
   clear H
   try go_wp2
   have n0_ := Aside0.mk (Kd.R_drew HO_8.out)
   have n1_ := Aside0.mk (Kd.R_drew HO_11.out)
   have n2_ := Aside0.mk (Kd.R_drew HO_416002.out)
   have n3_ := Aside0.mk (blk_drew BK396.out)
   have n4_ := Aside0.mk (blk_drew BK397.out)
   have n5_ := Aside0.mk (blk_drew BK415.out)
   have n6_ := Aside0.mk (below_drew1 HB.out)
   clear HO_8
   clear HO_11
   clear HO_416002
   clear BK396
   clear BK397
   clear BK415
   clear HB
   have HO_8 := n0_
   have HO_11 := n1_
   have HO_416002 := n2_
   have BK396 := n3_
   have BK397 := n4_
   have BK415 := n5_
   have HB := n6_
   clear n0_ n1_ n2_ n3_ n4_ n5_ n6_
   refine start_ (n := 5) (S := fun w' => w'.cell? ⟨gb415, 0, none⟩ = some (.int .i64 t410) ∧ w'.cell? ⟨gb415, 1, none⟩ = some (.int .i64 t411) ∧ w'.cell? ⟨gb415, 2, none⟩ = some (.slice Ao34 t412.length co34) ∧ w'.cell? ⟨gb396, 0, none⟩ = some (.int .i64 a0_0) ∧ w'.cell? ⟨gb396, 1, none⟩ = some (.int .i64 a0_1) ∧ w'.cell? ⟨gb396, 2, none⟩ = some (.slice A0_2 l0_2.length c0_2)) (ds := []) #[false, false, false, false, false] (by kernel_rfl) rfl rfl ⟨(blk_cell BK415.out 0).trans rfl, (blk_cell BK415.out 1).trans rfl, (blk_cell BK415.out 2).trans rfl, (blk_cell BK396.out 0).trans rfl, (blk_cell BK396.out 1).trans rfl, (blk_cell BK396.out 2).trans rfl⟩ (fun hHeld => ?_)
   generalize wc.drew = w51 at HO_8 HO_11 HO_416002 BK396 BK397 BK415 HB hHeld ⊢
   refine take_ (i := 0) (N := some 51) (v := ?_) (a' := ?_) #[true, false, false, false, false] rfl rfl (by kernel_rfl) (fun _ _ _ h => h) (Or.inl ⟨by rfl, ?_⟩) hHeld ?_ ?_
   rotate_left
   ·rintro w' ⟨s0, s1, s2, s3, s4, s5⟩
    go_simp
    with_reducible rfl
   rotate_left
   ·simp only [Act.put, List.setIfInBounds_toArray, List.set_cons_zero, List.set_cons_succ, i64_w, i32_w]
    rfl
   refine take_ (i := 1) (N := some 52) (v := ?_) (a' := ?_) #[true, true, false, false, false] rfl rfl (by kernel_rfl) (fun _ _ _ h => h) (Or.inl ⟨by rfl, ?_⟩) hHeld ?_ ?_
   rotate_left
   ·rintro w' ⟨s0, s1, s2, s3, s4, s5⟩
    go_simp
    with_reducible rfl
   rotate_left
   ·simp only [Act.put, List.setIfInBounds_toArray, List.set_cons_zero, List.set_cons_succ, i64_w, i32_w]
    rfl
   refine one_ (i := 2) (N := some 53) #[true, true, true, false, false] rfl rfl (by kernel_rfl) (by decide) (fun K hK => ?_)
   refine goes_ Try.func17 (by kernel_rfl) rfl #[.agg #[.int .i64 a0_0, .int .i64 a0_1, .slice A0_2 l0_2.length c0_2]] (by rfl) rfl rfl zq3 ?_
   with_reducible refine (laws_toBoard.calls kj16 a0_0 a0_1 _ _ l0_2 t423 t424 t425 _ ?side1 ?side2 A46.out).mono ?_
   (case side1 => exact zq12)
   (case side2 => exact HC0_2.out)
   rintro e w52 ⟨v426, rfl, ho0, hb⟩
   refine ⟨_, rfl, ?_⟩
   have n0_ := Aside0.mk (Kd.R_elder' zq11 (Kd.R_base ho0) hb)
   have n1_ := Aside0.mk (Kd.R_elder' zq10 (Kd.R_base ho0) hb)
   have n2_ := Aside0.mk (Kd.R_elder' zq8 (Kd.R_base ho0) hb)
   have n3_ := Aside0.mk (Kd.R_lower (Kd.R_new' (Kd.R_new' (Kd.R_new' ho0 (Kd.R_lt zq11)) (Kd.R_lt zq10)) (Kd.R_lt zq8)) (below_size zq1))
   have n4_ := Aside0.mk (blk_below (g := gb396) (o := .cells #[.int .i64 a0_0, .int .i64 a0_1, .slice A0_2 l0_2.length c0_2] 24 (0, 0)) zq2 hb)
   have n5_ := Aside0.mk (blk_below (g := gb397) (o := .cells #[.int .i64 a1_0, .int .i64 a1_1] 26 (0, 0)) zq4 hb)
   have n6_ := Aside0.mk (blk_below (g := gb415) (o := .cells #[.int .i64 t410, .int .i64 t411, .slice Ao34 t412.length co34] 30 (0, 0)) zq7 hb)
   have n7_ := Aside0.mk (below_step zq1 hb)
   clear HO_8
   clear HO_11
   clear HO_416002
   clear BK396
   clear BK397
   clear BK415
   clear HB
   have HO_8 := n0_
   have HO_11 := n1_
   have HO_416002 := n2_
   have HO427 := n3_
   have BK396 := n4_
   have BK397 := n5_
   have BK415 := n6_
   have HB := n7_
   clear n0_ n1_ n2_ n3_ n4_ n5_ n6_ n7_
   (try clear hb)
   (try clear hb2)
   (try clear hk)
   (try clear hi)
   (try clear ho0)
   (try clear hna_)
   (try clear hnb_)
   obtain ⟨Ao53, co53, eo53⟩ := Kd.R_slice HO427.out
   (first | subst eo53 | (injection eo53 with f1_ f2_ f3_; have f4_ := f1_.symm; have f5_ := f3_.symm; clear f1_ f2_ f3_; subst f4_; subst f5_))
   refine hK.out _ _ ⟨(blk_cell BK415.out 0).trans rfl, (blk_cell BK415.out 1).trans rfl, (blk_cell BK415.out 2).trans rfl, (blk_cell BK396.out 0).trans rfl, (blk_cell BK396.out 1).trans rfl, (blk_cell BK396.out 2).trans rfl⟩ (fun hHeld => ?_)
   clear hK K
   refine norm_ (a' := ?_) ?_ ?_
   rotate_left
   ·show Act.put _ (some 53) _ = _
    simp only [Act.put, List.setIfInBounds_toArray, List.set_cons_zero, List.set_cons_succ, i64_w, i32_w]
    rfl
   refine one_ (i := 3) (N := some 54) #[true, true, true, true, false] rfl rfl (by kernel_rfl) (by decide) (fun K hK => ?_)
   refine goes_ Try.func22 (by kernel_rfl) rfl #[.agg #[.int .i64 t410, .int .i64 t411, .slice Ao34 t412.length co34], .agg #[.int .i64 t423, .int .i64 t424, .slice Ao53 t425.length co53]] (by rfl) rfl rfl zq3 ?_
   with_reducible refine (laws_eqBoard.calls kj16 t410 t411 _ _ t412 t423 t424 _ _ t425 true _ ?side1 ?side2 ?side3 ?side4 A47.out).mono ?_
   (case side1 => exact zq29)
   (case side2 => exact (Kd.R_reads' HO_416002.out).2.1)
   (case side3 => exact zq31)
   (case side4 => exact (Kd.R_reads' HO427.out).2.1)
   rintro e w54 ⟨rfl, hb⟩
   refine ⟨_, rfl, ?_⟩
   have n0_ := Aside0.mk (Kd.R_below zq11 hb)
   have n1_ := Aside0.mk (Kd.R_below zq10 hb)
   have n2_ := Aside0.mk (Kd.R_below zq8 hb)
   have n3_ := Aside0.mk (Kd.R_below (by (with_reducible repeat (first | apply Kd.R_alloc | apply Kd.R_drewN | apply Kd.R_drew)); exact HO427.out) hb)
   have n4_ := Aside0.mk (blk_below (g := gb396) (o := .cells #[.int .i64 a0_0, .int .i64 a0_1, .slice A0_2 l0_2.length c0_2] 24 (0, 0)) zq2 hb)
   have n5_ := Aside0.mk (blk_below (g := gb397) (o := .cells #[.int .i64 a1_0, .int .i64 a1_1] 26 (0, 0)) zq4 hb)
   have n6_ := Aside0.mk (blk_below (g := gb415) (o := .cells #[.int .i64 t410, .int .i64 t411, .slice Ao34 t412.length co34] 30 (0, 0)) zq7 hb)
   have n7_ := Aside0.mk (below_step zq1 hb)
   clear HO_8
   clear HO_11
   clear HO_416002
   clear HO427
   clear BK396
   clear BK397
   clear BK415
   clear HB
   have HO_8 := n0_
   have HO_11 := n1_
   have HO_416002 := n2_
   have HO427 := n3_
   have BK396 := n4_
   have BK397 := n5_
   have BK415 := n6_
   have HB := n7_
   clear n0_ n1_ n2_ n3_ n4_ n5_ n6_ n7_
   (try clear hb)
   (try clear hb2)
   (try clear hk)
   (try clear hi)
   (try clear hna_)
   (try clear hnb_)
   refine hK.out _ _ ⟨(blk_cell BK415.out 0).trans rfl, (blk_cell BK415.out 1).trans rfl, (blk_cell BK415.out 2).trans rfl, (blk_cell BK396.out 0).trans rfl, (blk_cell BK396.out 1).trans rfl, (blk_cell BK396.out 2).trans rfl⟩ (fun hHeld => ?_)
   clear hK K
   refine norm_ (a' := ?_) ?_ ?_
   rotate_left
   ·show Act.put _ (some 54) _ = _
    simp only [Act.put, List.setIfInBounds_toArray, List.set_cons_zero, List.set_cons_succ, i64_w, i32_w]
    rfl
   refine pure_ (i := 4) (N := some 55) (v := ?_) (a' := ?_) #[true, true, true, true, true] rfl rfl (by kernel_rfl) (fun _ _ _ h => h) (Or.inl ⟨by rfl, ?_⟩) ?_ ?_
   rotate_left
   ·intro w'
    go_simp
    with_reducible rfl
   rotate_left
   ·simp only [Act.put, List.setIfInBounds_toArray, List.set_cons_zero, List.set_cons_succ, i64_w, i32_w]
    rfl
   refine done_ (by kernel_rfl) ?_
   have hnb55 := NB415_396.out
   have hnc55 := NB396_415.out
   have hnb56 := NB415_397.out
   have hnc56 := NB397_415.out
   have hcz57_0 : w54.cell? ⟨gb415, 0, none⟩ = some (.int .i64 t410) := (blk_cell BK415.out 0).trans rfl
   have hcz57_1 : w54.cell? ⟨gb415, 1, none⟩ = some (.int .i64 t411) := (blk_cell BK415.out 1).trans rfl
   have hcz57_2 : w54.cell? ⟨gb415, 2, none⟩ = some (.slice Ao34 t412.length co34) := (blk_cell BK415.out 2).trans rfl
   have hfz57_0 := blk_frozen BK415.out 0
   have hfz57_1 := blk_frozen BK415.out 1
   have hfz57_2 := blk_frozen BK415.out 2
   go_upto_region 14 with (first | ((with_reducible refine gate_callee (f := 23) rfl ?_); refine goesL_ (some 58) rfl rfl Try.func23 (by kernel_rfl) rfl #[.agg #[.int .i64 t410, .int .i64 t411, .slice Ao34 t412.length co34], .int .i64 1] rfl zq3 ?_; (with_reducible refine (laws_markBoard.calls kj16 t410 t411 (fun k_ => some k_ = (.slice Ao34 t412.length co34 : Value).ownBlock) (.slice Ao34 t412.length co34) t412 1 t429 t430 w _ ?side1 ?side2 A49.out).mono ?_); (case side1 => exact zq1); (case side2 => exact Kd.R_tight rfl HO_416002.out); rintro e w58 ⟨rfl, hy0, hb, hkp⟩; refine ⟨_, rfl, ?_⟩; have n0_ := Aside0.mk (Kd.R_mono (ok' := fun k_ => some k_ ≠ (v419 : Value).ownBlock ∧ some k_ ≠ (.slice Ao34 t412.length co34 : Value).ownBlock ∧ some k_ ≠ (.slice Ao53 t425.length co53 : Value).ownBlock) (Kd.R_keptB (HO_8.out) hkp (fun k_ hk_ hs_ => (hk_.1.2) hs_)) (fun k_ hk_ => ⟨hk_.1.1.1, hk_.1.1.2, hk_.1.2⟩)); have n1_ := Aside0.mk (Kd.R_mono (ok' := fun k_ => some k_ ≠ (v407 : Value).ownBlock ∧ some k_ ≠ (.slice Ao34 t412.length co34 : Value).ownBlock ∧ some k_ ≠ (.slice Ao53 t425.length co53 : Value).ownBlock) (Kd.R_keptB (HO_11.out) hkp (fun k_ hk_ hs_ => (hk_.1.2) hs_)) (fun k_ hk_ => ⟨hk_.1.1.1, hk_.1.1.2, hk_.1.2⟩)); have n2_ := Aside0.mk (Kd.R_reok rfl hy0 (fun k_ e_ => HO_416002.out.1 k_ e_)); have n3_ := Aside0.mk (blk_kept zq2 hkp (fun hs_ => (fun e_ => (Kd.R_ne HO_416002.out BK396.out (by decide)) e_) hs_)); have n4_ := Aside0.mk (blk_kept zq4 hkp (fun hs_ => (fun e_ => (Kd.R_ne HO_416002.out BK397.out (by decide)) e_) hs_)); have n5_ := Aside0.mk (blk_kept zq7 hkp (fun hs_ => (fun e_ => (Kd.R_ne HO_416002.out BK415.out (by decide)) e_) hs_)); have n6_ := Aside0.mk (Kd.R_mono (ok' := fun k_ => some k_ ≠ (v407 : Value).ownBlock ∧ some k_ ≠ (v419 : Value).ownBlock ∧ some k_ ≠ (.slice Ao34 t412.length co34 : Value).ownBlock) (Kd.R_keptB (HO427.out) hkp (fun k_ hk_ hs_ => (hk_.2) hs_)) (fun k_ hk_ => ⟨hk_.1.1.1.2, hk_.1.1.2, hk_.1.2⟩)); have n7_ := Aside0.mk (hb); clear HO_8; clear HO_11; clear HO_416002; clear BK396; clear BK397; clear BK415; clear HO427; clear HB; have HO_8 := n0_; have HO_11 := n1_; have HO_416002 := n2_; have BK396 := n3_; have BK397 := n4_; have BK415 := n5_; have HO427 := n6_; have HB := n7_; clear n0_ n1_ n2_ n3_ n4_ n5_ n6_ n7_; (try clear hb); (try clear hkp); (try clear hy0)))
   (try simp only [Act.put, List.setIfInBounds_toArray, List.set_cons_zero, List.set_cons_succ])
   go_cut [71] (fun v71 wc => ∃ (kq : Nat) (x71_49 : Bool), v71 = .bool x71_49 ∧ Aside0 (laws_FnExactFewestOnward.j1 kq a2 t406 t409 t418 x71_49 a0_0 a0_1 l0_2 a1_0 a1_1 = some r) ∧ Aside0 (kq ≤ kj16) ∧ Aside0 (Kd.R (Kd.int .i64) 3 wc w.heap.size (fun k_ => some k_ ≠ (v419 : Value).ownBlock ∧ some k_ ≠ ((.slice Ao34 t412.length co34) : Value).ownBlock) v407 t406) ∧ Aside0 (Kd.R (Kd.int .i64) 3 wc w.heap.size (fun k_ => some k_ ≠ (v407 : Value).ownBlock ∧ some k_ ≠ ((.slice Ao34 t412.length co34) : Value).ownBlock) v419 t418) ∧ Aside0 (Kd.R (Kd.int .i64) 3 wc w.heap.size (fun k_ => some k_ ≠ (v407 : Value).ownBlock ∧ some k_ ≠ (v419 : Value).ownBlock) (.slice Ao34 t412.length co34) t430) ∧ Aside0 (wc.heap[gb396]? = some (.cells #[.int .i64 a0_0, .int .i64 a0_1, (.slice A0_2 l0_2.length c0_2)] 24 (0, 0))) ∧ Aside0 (wc.heap[gb397]? = some (.cells #[.int .i64 a1_0, .int .i64 a1_1] 26 (0, 0))) ∧ Aside0 (wc.heap[gb415]? = some (.cells #[.int .i64 t410, .int .i64 t411, (.slice Ao34 t412.length co34)] 30 (0, 0))) ∧ Aside0 (Below w.heap.size w wc))
   case first =>
    have H := HC50.out
    clear HC50
    by_cases c59 : t429 < 0
    ·rw [if_pos c59] at H
     have c59b0 : decide (t429 < 0) = true := decide_eq_true c59
     clear c59
     (first | rw [c59b0] | (simp only [i64_w, i32_w]; rw [c59b0]) | skip)
     have H' := Aside0.mk H
     clear H
     go_wp2
     go_meet
     case rel => exact ⟨_, (true), zq24, H', ⟨by have := HJ16.out; first | omega | exact Nat.le_refl _⟩, ⟨zq23⟩, ⟨zq22⟩, ⟨zq21⟩, ⟨zq2⟩, ⟨zq4⟩, ⟨zq7⟩, ⟨zq1⟩⟩
    rw [if_neg c59] at H
    have c59b0 : decide (t429 < 0) = false := decide_eq_false c59
    clear c59
    (first | rw [c59b0] | (simp only [i64_w, i32_w]; rw [c59b0]) | skip)
    replace H := Option.bind_eq_some_iff.mp H
    obtain ⟨t431, A600, H⟩ := H
    replace H : (if t431 = true then (laws_FnExactFewestOnward.j1 kj16 a2 t406 t409 t418 (t421 != t409) a0_0 a0_1 l0_2 a1_0 a1_1) else (laws_FnExactFewestOnward.j1 kj16 a2 t406 t409 t418 true a0_0 a0_1 l0_2 a1_0 a1_1)) = some r := H
    have A60 := Aside0.mk A600
    clear A600
    by_cases c61 : t431 = true
    ·subst c61
     have H1 : (laws_FnExactFewestOnward.j1 kj16 a2 t406 t409 t418 (t421 != t409) a0_0 a0_1 l0_2 a1_0 a1_1) = some r := by rw [if_pos rfl] at H; exact H
     clear H
     have H := H1
     clear H1
     have H' := Aside0.mk H
     clear H
     obtain ⟨Ao62, co62, eo62⟩ := Kd.R_slice HO_11.out
     subst eo62
     obtain ⟨Ao63, co63, eo63⟩ := Kd.R_slice HO_8.out
     subst eo63
     go_wp2_with (first | (go_at_call 21; (with_reducible refine (laws_eqIntS.calls kj16 _ _ t418 _ _ t406 true _ ?side1 ?side2 ?side3 ?side4 A60.out).mono ?_); (case side1 => exact zq9); (case side2 => exact (Kd.R_reads' HO_11.out).2.1); (case side3 => exact zq18); (case side4 => exact (Kd.R_reads' HO_8.out).2.1); rintro e w' ⟨rfl, ⟨nd, rfl⟩⟩))
     go_meet
     case rel => exact ⟨_, ((t421 != t409)), zq24, H', ⟨by have := HJ16.out; first | omega | exact Nat.le_refl _⟩, ⟨zq23⟩, ⟨zq22⟩, ⟨zq21⟩, ⟨zq2⟩, ⟨zq4⟩, ⟨zq7⟩, ⟨zq1⟩⟩
    replace c61 := Bool.eq_false_iff.mpr c61
    subst c61
    have H1 : (laws_FnExactFewestOnward.j1 kj16 a2 t406 t409 t418 true a0_0 a0_1 l0_2 a1_0 a1_1) = some r := by rw [if_neg (show ¬ (false = true) by decide)] at H; exact H
    clear H
    have H := H1
    clear H1
    have H' := Aside0.mk H
    clear H
    obtain ⟨Ao64, co64, eo64⟩ := Kd.R_slice HO_11.out
    subst eo64
    obtain ⟨Ao65, co65, eo65⟩ := Kd.R_slice HO_8.out
    subst eo65
    go_wp2_with (first | (go_at_call 21; (with_reducible refine (laws_eqIntS.calls kj16 _ _ t418 _ _ t406 false _ ?side1 ?side2 ?side3 ?side4 A60.out).mono ?_); (case side1 => exact zq9); (case side2 => exact (Kd.R_reads' HO_11.out).2.1); (case side3 => exact zq18); (case side4 => exact (Kd.R_reads' HO_8.out).2.1); rintro e w' ⟨rfl, ⟨nd, rfl⟩⟩))
    go_meet
    case rel => exact ⟨_, (true), zq24, H', ⟨by have := HJ16.out; first | omega | exact Nat.le_refl _⟩, ⟨zq23⟩, ⟨zq22⟩, ⟨zq21⟩, ⟨zq2⟩, ⟨zq4⟩, ⟨zq7⟩, ⟨zq1⟩⟩
   case rest =>
    clear HC50
    try clear c1; try clear c2; try clear p2; try clear c3; try clear c4; try clear c5; try clear c5b0; try clear c6; try clear c8; try clear c15; try clear c17; try clear c18; try clear c20; try clear c21; try clear c22; try clear c23; try clear c26; try clear c27; try clear c31; try clear c32; try clear c40; try clear c45; try clear c48; try clear c55; try clear c56; try clear c59; try clear c59b0; try clear c61; try clear hcz21_0; try clear hcz21_1; try clear hcz21_2; try clear hcz28_0; try clear hcz28_1; try clear hcz28_2; try clear hcz33_0; try clear hcz33_1; try clear hcz33_2; try clear hcz57_0
    try clear hcz57_1; try clear hcz57_2; try clear hcz9_0; try clear hcz9_1; try clear hcz9_2; try clear hfz21_0; try clear hfz21_1; try clear hfz21_2; try clear hfz28_0; try clear hfz28_1; try clear hfz28_2; try clear hfz33_0; try clear hfz33_1; try clear hfz33_2; try clear hfz57_0; try clear hfz57_1; try clear hfz57_2; try clear hfz9_0; try clear hfz9_1; try clear hfz9_2; try clear p2
    obtain ⟨kq, x71_49, rfl, HA, HJ49, HO_8, HO_11, HO_416002, BK396, BK397, BK415, HB⟩ := hcut
    have hl416002_49 := (Kd.R_reads' HO_416002.out).1
    rw [hl416002_49] at HO_416002
    (try simp only [hl416002_49])
    (try simp only [hl416002_49] at BK396)
    (try simp only [hl416002_49] at BK397)
    (try simp only [hl416002_49] at BK415)
    (try simp only [hl416002_49] at HO_8)
    (try simp only [hl416002_49] at HO_11)
    cases kq with
    | zero => exact absurd HA.out (by simp [laws_FnExactFewestOnward.j1])
    | succ kj49 =>
     have H := HA.out
     clear HA
     simp only [laws_FnExactFewestOnward.j1] at H
     by_cases c66 : x71_49 = true
     ·subst c66
      have H1 : (some false) = some r := by rw [if_pos rfl] at H; exact H
      clear H
      have H := H1
      clear H1
      obtain rfl := Option.some.inj H
      go_wp2
      go_ret
      exact ⟨zq13, zq1⟩
     replace c66 := Bool.eq_false_iff.mpr c66
     subst c66
     have H1 : ((laws_markIntS.f kj49 t418 1).bind fun bt432 => ((laws_heldIntS.f kj49 bt432.2 1).bind fun t434 => (if t434 < 0 then (some false) else (if t434 = bt432.1 then ((laws_toBoard.f kj49 a0_0 a0_1 l0_2).bind fun bt435 => ((laws_toLeaper.f a1_0 a1_1).bind fun bt440 => ((impl_FewestOnward.f kj49 bt435.1 bt435.2.1 bt435.2.2 bt440.1 bt440.2 a2).bind fun bt442 => ((laws_eqIntS.f kj49 bt442.1 t406).bind fun t446 => (if t446 = true then (laws_FnExactFewestOnward.j2 kj49 bt432.2 bt432.1 (bt442.2 != t409)) else (laws_FnExactFewestOnward.j2 kj49 bt432.2 bt432.1 true)))))) else (some false))))) = some r := by rw [if_neg (show ¬ (false = true) by decide)] at H; exact H
     clear H
     have H := H1
     clear H1
     replace H := Option.bind_eq_some_iff.mp H
     obtain ⟨⟨t432, t433⟩, A670, H⟩ := H
     replace H : ((laws_heldIntS.f kj49 t433 1).bind fun t434 => (if t434 < 0 then (some false) else (if t434 = t432 then ((laws_toBoard.f kj49 a0_0 a0_1 l0_2).bind fun bt435 => ((laws_toLeaper.f a1_0 a1_1).bind fun bt440 => ((impl_FewestOnward.f kj49 bt435.1 bt435.2.1 bt435.2.2 bt440.1 bt440.2 a2).bind fun bt442 => ((laws_eqIntS.f kj49 bt442.1 t406).bind fun t446 => (if t446 = true then (laws_FnExactFewestOnward.j2 kj49 t433 t432 (bt442.2 != t409)) else (laws_FnExactFewestOnward.j2 kj49 t433 t432 true)))))) else (some false)))) = some r := H
     have A67 := Aside0.mk A670
     clear A670
     replace H := Option.bind_eq_some_iff.mp H
     obtain ⟨t434, A680, H⟩ := H
     replace H : (if t434 < 0 then (some false) else (if t434 = t432 then ((laws_toBoard.f kj49 a0_0 a0_1 l0_2).bind fun bt435 => ((laws_toLeaper.f a1_0 a1_1).bind fun bt440 => ((impl_FewestOnward.f kj49 bt435.1 bt435.2.1 bt435.2.2 bt440.1 bt440.2 a2).bind fun bt442 => ((laws_eqIntS.f kj49 bt442.1 t406).bind fun t446 => (if t446 = true then (laws_FnExactFewestOnward.j2 kj49 t433 t432 (bt442.2 != t409)) else (laws_FnExactFewestOnward.j2 kj49 t433 t432 true)))))) else (some false))) = some r := H
     have A68 := Aside0.mk A680
     clear A680
     by_cases c69 : t434 < 0
     ·rw [if_pos c69] at H
      have c69b0 : decide (t434 < 0) = true := decide_eq_true c69
      clear c69
      obtain rfl := Option.some.inj H
      obtain ⟨Ao70, co70, eo70⟩ := Kd.R_slice HO_11.out
      subst eo70
      go_wp2_with (first | ((with_reducible refine gate_callee (f := 24) rfl ?_); refine goesL_ (some 74) rfl rfl Try.func24 (by kernel_rfl) rfl #[.slice Ao70 t418.length co70, .int .i64 1] rfl zq3 ?_; (with_reducible refine (laws_markIntS.calls kj49 (fun k_ => some k_ = (.slice Ao70 t418.length co70 : Value).ownBlock) (.slice Ao70 t418.length co70) t418 1 t432 t433 w _ ?side1 ?side2 A67.out).mono ?_); (case side1 => exact zq1); (case side2 => exact Kd.R_tight rfl HO_11.out); rintro e w71 ⟨rfl, hy0, hb, hkp⟩; refine ⟨_, rfl, ?_⟩; have n0_ := Aside0.mk (Kd.R_mono (ok' := fun k_ => some k_ ≠ (.slice Ao70 t418.length co70 : Value).ownBlock ∧ some k_ ≠ (.slice Ao34 t430.length co34 : Value).ownBlock) (Kd.R_keptB (HO_8.out) hkp (fun k_ hk_ hs_ => (hk_.1) hs_)) (fun k_ hk_ => ⟨hk_.1.1, hk_.1.2⟩)); have n1_ := Aside0.mk (Kd.R_reok rfl hy0 (fun k_ e_ => HO_11.out.1 k_ e_)); have n2_ := Aside0.mk (Kd.R_mono (ok' := fun k_ => some k_ ≠ (v407 : Value).ownBlock ∧ some k_ ≠ (.slice Ao70 t418.length co70 : Value).ownBlock) (Kd.R_keptB (HO_416002.out) hkp (fun k_ hk_ hs_ => (hk_.2) hs_)) (fun k_ hk_ => ⟨hk_.1.1, hk_.1.2⟩)); have n3_ := Aside0.mk (blk_kept zq2 hkp (fun hs_ => (fun e_ => (Kd.R_ne HO_11.out BK396.out (by decide)) e_) hs_)); have n4_ := Aside0.mk (blk_kept zq4 hkp (fun hs_ => (fun e_ => (Kd.R_ne HO_11.out BK397.out (by decide)) e_) hs_)); have n5_ := Aside0.mk (blk_kept zq7 hkp (fun hs_ => (fun e_ => (Kd.R_ne HO_11.out BK415.out (by decide)) e_) hs_)); have n6_ := Aside0.mk (hb); clear HO_8; clear HO_11; clear HO_416002; clear BK396; clear BK397; clear BK415; clear HB; have HO_8 := n0_; have HO_11 := n1_; have HO_416002 := n2_; have BK396 := n3_; have BK397 := n4_; have BK415 := n5_; have HB := n6_; clear n0_ n1_ n2_ n3_ n4_ n5_ n6_; (try clear hb); (try clear hkp); (try clear hy0)) | ((with_reducible refine gate_callee (f := 25) rfl ?_); refine goesL_ (some 77) rfl rfl Try.func25 (by kernel_rfl) rfl #[.slice Ao70 t433.length co70, .int .i64 1] rfl zq19 ?_; (with_reducible refine (laws_heldIntS.calls kj49 _ _ t433 1 t434 _ ?side1 ?side2 A68.out).mono ?_); (case side1 => exact zq9); (case side2 => exact zq26); rintro e w' ⟨rfl, ⟨nd, rfl⟩⟩; refine ⟨_, rfl, ?_⟩))
      go_ret
      exact ⟨zq13, zq1⟩
     rw [if_neg c69] at H
     have c69b0 : decide (t434 < 0) = false := decide_eq_false c69
     clear c69
     by_cases c72 : t434 = t432
     rotate_left
     ·rw [if_neg c72] at H
      have c72b0 : (t434 == t432) = false := beq_eq_false_iff_ne.mpr c72
      have c72b1 : (t434 != t432) = true := bne_iff_ne.mpr c72
      obtain rfl := Option.some.inj H
      obtain ⟨Ao94, co94, eo94⟩ := Kd.R_slice HO_11.out
      subst eo94
      go_wp2_with (first | ((with_reducible refine gate_callee (f := 24) rfl ?_); refine goesL_ (some 74) rfl rfl Try.func24 (by kernel_rfl) rfl #[.slice Ao94 t418.length co94, .int .i64 1] rfl zq3 ?_; (with_reducible refine (laws_markIntS.calls kj49 (fun k_ => some k_ = (.slice Ao94 t418.length co94 : Value).ownBlock) (.slice Ao94 t418.length co94) t418 1 t432 t433 w _ ?side1 ?side2 A67.out).mono ?_); (case side1 => exact zq1); (case side2 => exact Kd.R_tight rfl HO_11.out); rintro e w95 ⟨rfl, hy0, hb, hkp⟩; refine ⟨_, rfl, ?_⟩; have n0_ := Aside0.mk (Kd.R_mono (ok' := fun k_ => some k_ ≠ (.slice Ao94 t418.length co94 : Value).ownBlock ∧ some k_ ≠ (.slice Ao34 t430.length co34 : Value).ownBlock) (Kd.R_keptB (HO_8.out) hkp (fun k_ hk_ hs_ => (hk_.1) hs_)) (fun k_ hk_ => ⟨hk_.1.1, hk_.1.2⟩)); have n1_ := Aside0.mk (Kd.R_reok rfl hy0 (fun k_ e_ => HO_11.out.1 k_ e_)); have n2_ := Aside0.mk (Kd.R_mono (ok' := fun k_ => some k_ ≠ (v407 : Value).ownBlock ∧ some k_ ≠ (.slice Ao94 t418.length co94 : Value).ownBlock) (Kd.R_keptB (HO_416002.out) hkp (fun k_ hk_ hs_ => (hk_.2) hs_)) (fun k_ hk_ => ⟨hk_.1.1, hk_.1.2⟩)); have n3_ := Aside0.mk (blk_kept zq2 hkp (fun hs_ => (fun e_ => (Kd.R_ne HO_11.out BK396.out (by decide)) e_) hs_)); have n4_ := Aside0.mk (blk_kept zq4 hkp (fun hs_ => (fun e_ => (Kd.R_ne HO_11.out BK397.out (by decide)) e_) hs_)); have n5_ := Aside0.mk (blk_kept zq7 hkp (fun hs_ => (fun e_ => (Kd.R_ne HO_11.out BK415.out (by decide)) e_) hs_)); have n6_ := Aside0.mk (hb); clear HO_8; clear HO_11; clear HO_416002; clear BK396; clear BK397; clear BK415; clear HB; have HO_8 := n0_; have HO_11 := n1_; have HO_416002 := n2_; have BK396 := n3_; have BK397 := n4_; have BK415 := n5_; have HB := n6_; clear n0_ n1_ n2_ n3_ n4_ n5_ n6_; (try clear hb); (try clear hkp); (try clear hy0)) | ((with_reducible refine gate_callee (f := 25) rfl ?_); refine goesL_ (some 77) rfl rfl Try.func25 (by kernel_rfl) rfl #[.slice Ao94 t433.length co94, .int .i64 1] rfl zq19 ?_; (with_reducible refine (laws_heldIntS.calls kj49 _ _ t433 1 t434 _ ?side1 ?side2 A68.out).mono ?_); (case side1 => exact zq9); (case side2 => exact zq26); rintro e w' ⟨rfl, ⟨nd, rfl⟩⟩; refine ⟨_, rfl, ?_⟩))
      go_ret
      exact ⟨zq13, zq1⟩
     rw [if_pos c72] at H
     have c72b0 : (t434 == t432) = true := beq_iff_eq.mpr c72
     have c72b1 : (t434 != t432) = false := bne_eq_false_iff_eq.mpr c72
     clear c72
     replace H := Option.bind_eq_some_iff.mp H
     obtain ⟨⟨t435, t436, t437⟩, A730, H⟩ := H
     replace H : ((laws_toLeaper.f a1_0 a1_1).bind fun bt440 => ((impl_FewestOnward.f kj49 t435 t436 t437 bt440.1 bt440.2 a2).bind fun bt442 => ((laws_eqIntS.f kj49 bt442.1 t406).bind fun t446 => (if t446 = true then (laws_FnExactFewestOnward.j2 kj49 t433 t432 (bt442.2 != t409)) else (laws_FnExactFewestOnward.j2 kj49 t433 t432 true))))) = some r := H
     have A73 := Aside0.mk A730
     clear A730
     replace H := Option.bind_eq_some_iff.mp H
     obtain ⟨⟨t440, t441⟩, A740, H⟩ := H
     replace H : ((impl_FewestOnward.f kj49 t435 t436 t437 t440 t441 a2).bind fun bt442 => ((laws_eqIntS.f kj49 bt442.1 t406).bind fun t446 => (if t446 = true then (laws_FnExactFewestOnward.j2 kj49 t433 t432 (bt442.2 != t409)) else (laws_FnExactFewestOnward.j2 kj49 t433 t432 true)))) = some r := H
     have A74 := Aside0.mk A740
     clear A740
     replace H := Option.bind_eq_some_iff.mp H
     obtain ⟨⟨t442, t445⟩, A750, H⟩ := H
     replace H : ((laws_eqIntS.f kj49 t442 t406).bind fun t446 => (if t446 = true then (laws_FnExactFewestOnward.j2 kj49 t433 t432 (t445 != t409)) else (laws_FnExactFewestOnward.j2 kj49 t433 t432 true))) = some r := H
     have A75 := Aside0.mk A750
     clear A750
     have HC76 := Aside0.mk H
     clear H
     obtain ⟨Ao77, co77, eo77⟩ := Kd.R_slice HO_11.out
     subst eo77
     try go_wp2_with (first | ((with_reducible refine gate_callee (f := 24) rfl ?_); refine goesL_ (some 74) rfl rfl Try.func24 (by kernel_rfl) rfl #[.slice Ao77 t418.length co77, .int .i64 1] rfl zq3 ?_; (with_reducible refine (laws_markIntS.calls kj49 (fun k_ => some k_ = (.slice Ao77 t418.length co77 : Value).ownBlock) (.slice Ao77 t418.length co77) t418 1 t432 t433 w _ ?side1 ?side2 A67.out).mono ?_); (case side1 => exact zq1); (case side2 => exact Kd.R_tight rfl HO_11.out); rintro e w78 ⟨rfl, hy0, hb, hkp⟩; refine ⟨_, rfl, ?_⟩; have n0_ := Aside0.mk (Kd.R_mono (ok' := fun k_ => some k_ ≠ (.slice Ao77 t418.length co77 : Value).ownBlock ∧ some k_ ≠ (.slice Ao34 t430.length co34 : Value).ownBlock) (Kd.R_keptB (HO_8.out) hkp (fun k_ hk_ hs_ => (hk_.1) hs_)) (fun k_ hk_ => ⟨hk_.1.1, hk_.1.2⟩)); have n1_ := Aside0.mk (Kd.R_reok rfl hy0 (fun k_ e_ => HO_11.out.1 k_ e_)); have n2_ := Aside0.mk (Kd.R_mono (ok' := fun k_ => some k_ ≠ (v407 : Value).ownBlock ∧ some k_ ≠ (.slice Ao77 t418.length co77 : Value).ownBlock) (Kd.R_keptB (HO_416002.out) hkp (fun k_ hk_ hs_ => (hk_.2) hs_)) (fun k_ hk_ => ⟨hk_.1.1, hk_.1.2⟩)); have n3_ := Aside0.mk (blk_kept zq2 hkp (fun hs_ => (fun e_ => (Kd.R_ne HO_11.out BK396.out (by decide)) e_) hs_)); have n4_ := Aside0.mk (blk_kept zq4 hkp (fun hs_ => (fun e_ => (Kd.R_ne HO_11.out BK397.out (by decide)) e_) hs_)); have n5_ := Aside0.mk (blk_kept zq7 hkp (fun hs_ => (fun e_ => (Kd.R_ne HO_11.out BK415.out (by decide)) e_) hs_)); have n6_ := Aside0.mk (hb); clear HO_8; clear HO_11; clear HO_416002; clear BK396; clear BK397; clear BK415; clear HB; have HO_8 := n0_; have HO_11 := n1_; have HO_416002 := n2_; have BK396 := n3_; have BK397 := n4_; have BK415 := n5_; have HB := n6_; clear n0_ n1_ n2_ n3_ n4_ n5_ n6_; (try clear hb); (try clear hkp); (try clear hy0)) | ((with_reducible refine gate_callee (f := 25) rfl ?_); refine goesL_ (some 77) rfl rfl Try.func25 (by kernel_rfl) rfl #[.slice Ao77 t433.length co77, .int .i64 1] rfl zq19 ?_; (with_reducible refine (laws_heldIntS.calls kj49 _ _ t433 1 t434 _ ?side1 ?side2 A68.out).mono ?_); (case side1 => exact zq9); (case side2 => exact zq26); rintro e w' ⟨rfl, ⟨nd, rfl⟩⟩; refine ⟨_, rfl, ?_⟩))
     (try (rw [drewN_self w78]; generalize hq_ : World.drewN w78 _ = w78; have n0_ : Aside0 (Kd.R (Kd.int .i64) 3 w78 w.heap.size (fun k_ => (some k_ ≠ (v407 : Value).ownBlock ∧ some k_ ≠ (.slice Ao34 t430.length co34 : Value).ownBlock)) (.slice Ao77 t418.length co77) t433) := ⟨by rw [← hq_]; exact zq10⟩; have n1_ : Aside0 (Kd.R (Kd.int .i64) 3 w78 w.heap.size (fun k_ => (some k_ ≠ (v407 : Value).ownBlock ∧ some k_ ≠ (.slice Ao77 t418.length co77 : Value).ownBlock)) (.slice Ao34 t430.length co34) t430) := ⟨by rw [← hq_]; exact zq8⟩; have n2_ : Aside0 (Kd.R (Kd.int .i64) 3 w78 w.heap.size (fun k_ => (some k_ ≠ (.slice Ao77 t418.length co77 : Value).ownBlock ∧ some k_ ≠ (.slice Ao34 t430.length co34 : Value).ownBlock)) v407 t406) := ⟨by rw [← hq_]; exact zq11⟩; have n3_ : Aside0 (w78.heap[gb396]? = some (.cells #[.int .i64 a0_0, .int .i64 a0_1, .slice A0_2 l0_2.length c0_2] 24 (0, 0))) := ⟨by rw [← hq_]; exact zq2⟩; have n4_ : Aside0 (w78.heap[gb397]? = some (.cells #[.int .i64 a1_0, .int .i64 a1_1] 26 (0, 0))) := ⟨by rw [← hq_]; exact zq4⟩; have n5_ : Aside0 (w78.heap[gb415]? = some (.cells #[.int .i64 t410, .int .i64 t411, .slice Ao34 t430.length co34] 30 (0, 0))) := ⟨by rw [← hq_]; exact zq7⟩; have n6_ : Aside0 (Below w.heap.size w w78) := ⟨by rw [← hq_]; exact zq1⟩; clear HO_11 HO_416002 HO_8 BK396 BK397 BK415 HB hq_; have HO_11 := n0_; have HO_416002 := n1_; have HO_8 := n2_; have BK396 := n3_; have BK397 := n4_; have BK415 := n5_; have HB := n6_; clear n0_ n1_ n2_ n3_ n4_ n5_ n6_))
     have n0_ := Aside0.mk (Kd.R_drew HO_8.out)
     have n1_ := Aside0.mk (Kd.R_drew HO_11.out)
     have n2_ := Aside0.mk (Kd.R_drew HO_416002.out)
     have n3_ := Aside0.mk (blk_drew BK396.out)
     have n4_ := Aside0.mk (blk_drew BK397.out)
     have n5_ := Aside0.mk (blk_drew BK415.out)
     have n6_ := Aside0.mk (below_drew1 HB.out)
     clear HO_8
     clear HO_11
     clear HO_416002
     clear BK396
     clear BK397
     clear BK415
     clear HB
     have HO_8 := n0_
     have HO_11 := n1_
     have HO_416002 := n2_
     have BK396 := n3_
     have BK397 := n4_
     have BK415 := n5_
     have HB := n6_
     clear n0_ n1_ n2_ n3_ n4_ n5_ n6_
     refine start_ (n := 11) (S := fun w' => w'.cell? ⟨gb396, 0, none⟩ = some (.int .i64 a0_0) ∧ w'.cell? ⟨gb396, 1, none⟩ = some (.int .i64 a0_1) ∧ w'.cell? ⟨gb396, 2, none⟩ = some (.slice A0_2 l0_2.length c0_2) ∧ w'.cell? ⟨gb397, 0, none⟩ = some (.int .i64 a1_0) ∧ w'.cell? ⟨gb397, 1, none⟩ = some (.int .i64 a1_1)) (ds := []) #[false, false, false, false, false, false, false, false, false, false, false] (by kernel_rfl) rfl rfl ⟨(blk_cell BK396.out 0).trans rfl, (blk_cell BK396.out 1).trans rfl, (blk_cell BK396.out 2).trans rfl, (blk_cell BK397.out 0).trans rfl, (blk_cell BK397.out 1).trans rfl⟩ (fun hHeld => ?_); refine with_tabW laws_FnExactFewestOnward.tab24 laws_FnExactFewestOnward.bits24 (fun HT_ HW_ => ?_)
     generalize w78.drew = w79 at HO_8 HO_11 HO_416002 BK396 BK397 BK415 HB hHeld ⊢
     refine pure_ (i := 4) (N := some 88) (v := ?_) (a' := ?_) #[false, false, false, false, true, false, false, false, false, false, false] rfl rfl (any_of HT_.out (by kernel_rfl)) (fun _ _ _ h => h) (Or.inl ⟨by rfl, ?_⟩) ?_ ?_
     rotate_left
     ·intro w'
      go_simp
      with_reducible rfl
     rotate_left
     ·simp only [Act.put, List.setIfInBounds_toArray, List.set_cons_zero, List.set_cons_succ, i64_w, i32_w]
      rfl
     refine take_ (i := 0) (N := some 84) (v := ?_) (a' := ?_) #[true, false, false, false, true, false, false, false, false, false, false] rfl rfl (take_ofW HT_.out HW_.out (by kernel_rfl)) (fun _ _ _ h => h) (Or.inl ⟨by rfl, ?_⟩) hHeld ?_ ?_
     rotate_left
     ·rintro w' ⟨s0, s1, s2, s3, s4⟩
      go_simp
      with_reducible rfl
     rotate_left
     ·simp only [Act.put, List.setIfInBounds_toArray, List.set_cons_zero, List.set_cons_succ, i64_w, i32_w]
      rfl
     refine take_ (i := 2) (N := some 86) (v := ?_) (a' := ?_) #[true, false, true, false, true, false, false, false, false, false, false] rfl rfl (take_ofW HT_.out HW_.out (by kernel_rfl)) (fun _ _ _ h => h) (Or.inl ⟨by rfl, ?_⟩) hHeld ?_ ?_
     rotate_left
     ·rintro w' ⟨s0, s1, s2, s3, s4⟩
      go_simp
      with_reducible rfl
     rotate_left
     ·simp only [Act.put, List.setIfInBounds_toArray, List.set_cons_zero, List.set_cons_succ, i64_w, i32_w]
      rfl
     refine one_ (i := 1) (N := some 85) #[true, true, true, false, true, false, false, false, false, false, false] rfl rfl (one_of HT_.out (by kernel_rfl)) (by decide) (fun K hK => ?_)
     refine goes_ Try.func17 (by kernel_rfl) rfl #[.agg #[.int .i64 a0_0, .int .i64 a0_1, .slice A0_2 l0_2.length c0_2]] (by rfl) rfl rfl zq3 ?_
     with_reducible refine (laws_toBoard.calls kj49 a0_0 a0_1 _ _ l0_2 t435 t436 t437 _ ?side1 ?side2 A73.out).mono ?_
     (case side1 => exact zq12)
     (case side2 => exact HC0_2.out)
     rintro e w80 ⟨v438, rfl, ho0, hb⟩
     refine ⟨_, rfl, ?_⟩
     have n0_ := Aside0.mk (Kd.R_elder' zq11 (Kd.R_base ho0) hb)
     have n1_ := Aside0.mk (Kd.R_elder' zq10 (Kd.R_base ho0) hb)
     have n2_ := Aside0.mk (Kd.R_elder' zq8 (Kd.R_base ho0) hb)
     have n3_ := Aside0.mk (Kd.R_lower (Kd.R_new' (Kd.R_new' (Kd.R_new' ho0 (Kd.R_lt zq11)) (Kd.R_lt zq10)) (Kd.R_lt zq8)) (below_size zq1))
     have n4_ := Aside0.mk (blk_below (g := gb396) (o := .cells #[.int .i64 a0_0, .int .i64 a0_1, .slice A0_2 l0_2.length c0_2] 24 (0, 0)) zq2 hb)
     have n5_ := Aside0.mk (blk_below (g := gb397) (o := .cells #[.int .i64 a1_0, .int .i64 a1_1] 26 (0, 0)) zq4 hb)
     have n6_ := Aside0.mk (blk_below (g := gb415) (o := .cells #[.int .i64 t410, .int .i64 t411, .slice Ao34 t430.length co34] 30 (0, 0)) zq7 hb)
     have n7_ := Aside0.mk (below_step zq1 hb)
     clear HO_8
     clear HO_11
     clear HO_416002
     clear BK396
     clear BK397
     clear BK415
     clear HB
     have HO_8 := n0_
     have HO_11 := n1_
     have HO_416002 := n2_
     have HO439 := n3_
     have BK396 := n4_
     have BK397 := n5_
     have BK415 := n6_
     have HB := n7_
     clear n0_ n1_ n2_ n3_ n4_ n5_ n6_ n7_
     (try clear hb)
     (try clear hb2)
     (try clear hk)
     (try clear hi)
     (try clear ho0)
     (try clear hna_)
     (try clear hnb_)
     refine hK.out _ _ ⟨(blk_cell BK396.out 0).trans rfl, (blk_cell BK396.out 1).trans rfl, (blk_cell BK396.out 2).trans rfl, (blk_cell BK397.out 0).trans rfl, (blk_cell BK397.out 1).trans rfl⟩ (fun hHeld => ?_)
     clear hK K
     refine norm_ (a' := ?_) ?_ ?_
     rotate_left
     ·show Act.put _ (some 85) _ = _
      simp only [Act.put, List.setIfInBounds_toArray, List.set_cons_zero, List.set_cons_succ, i64_w, i32_w]
      rfl
     refine one_ (i := 3) (N := some 87) #[true, true, true, true, true, false, false, false, false, false, false] rfl rfl (one_of HT_.out (by kernel_rfl)) (by decide) (fun K hK => ?_)
     refine goes_ Try.func18 (by kernel_rfl) rfl #[.agg #[.int .i64 a1_0, .int .i64 a1_1]] (by rfl) rfl rfl zq3 ?_
     with_reducible refine (laws_toLeaper.calls a1_0 a1_1 t440 t441 _ A74.out).mono ?_
     rintro e w81 ⟨rfl, hb⟩
     refine ⟨_, rfl, ?_⟩
     have n0_ := Aside0.mk (Kd.R_below zq11 hb)
     have n1_ := Aside0.mk (Kd.R_below zq10 hb)
     have n2_ := Aside0.mk (Kd.R_below zq8 hb)
     have n3_ := Aside0.mk (Kd.R_below zq25 hb)
     have n4_ := Aside0.mk (blk_below (g := gb396) (o := .cells #[.int .i64 a0_0, .int .i64 a0_1, .slice A0_2 l0_2.length c0_2] 24 (0, 0)) zq2 hb)
     have n5_ := Aside0.mk (blk_below (g := gb397) (o := .cells #[.int .i64 a1_0, .int .i64 a1_1] 26 (0, 0)) zq4 hb)
     have n6_ := Aside0.mk (blk_below (g := gb415) (o := .cells #[.int .i64 t410, .int .i64 t411, .slice Ao34 t430.length co34] 30 (0, 0)) zq7 hb)
     have n7_ := Aside0.mk (below_step zq1 hb)
     clear HO_8
     clear HO_11
     clear HO_416002
     clear HO439
     clear BK396
     clear BK397
     clear BK415
     clear HB
     have HO_8 := n0_
     have HO_11 := n1_
     have HO_416002 := n2_
     have HO439 := n3_
     have BK396 := n4_
     have BK397 := n5_
     have BK415 := n6_
     have HB := n7_
     clear n0_ n1_ n2_ n3_ n4_ n5_ n6_ n7_
     (try clear hb)
     (try clear hb2)
     (try clear hk)
     (try clear hi)
     (try clear hna_)
     (try clear hnb_)
     obtain ⟨Ao82, co82, eo82⟩ := Kd.R_slice HO439.out
     (first | subst eo82 | (injection eo82 with f1_ f2_ f3_; have f4_ := f1_.symm; have f5_ := f3_.symm; clear f1_ f2_ f3_; subst f4_; subst f5_))
     refine hK.out _ _ ⟨(blk_cell BK396.out 0).trans rfl, (blk_cell BK396.out 1).trans rfl, (blk_cell BK396.out 2).trans rfl, (blk_cell BK397.out 0).trans rfl, (blk_cell BK397.out 1).trans rfl⟩ (fun hHeld => ?_)
     clear hK K
     refine norm_ (a' := ?_) ?_ ?_
     rotate_left
     ·show Act.put _ (some 87) _ = _
      simp only [Act.put, List.setIfInBounds_toArray, List.set_cons_zero, List.set_cons_succ, i64_w, i32_w]
      rfl
     refine one_ (i := 5) (N := some 89) #[true, true, true, true, true, true, false, false, false, false, false] rfl rfl (one_of HT_.out (by kernel_rfl)) (by decide) (fun K hK => ?_)
     refine goes_ Try.func27 (by kernel_rfl) rfl #[.agg #[.int .i64 t435, .int .i64 t436, .slice Ao82 t437.length co82], .agg #[.int .i64 t440, .int .i64 t441], .int .i64 a2] (by rfl) rfl rfl zq3 ?_
     with_reducible refine (impl_FewestOnward.calls kj49 t435 t436 _ _ t437 t440 t441 a2 t442 t445 _ ?side1 ?side2 A75.out).mono ?_
     (case side1 => repeat (first | exact (Kd.R_reads' HO439.out).2.2 | (with_reducible refine Kd.C_alloc ?_ _) | (with_reducible refine Kd.C_drewN ?_ _) | (with_reducible refine Kd.C_drew ?_)))
     (case side2 => exact (Kd.R_reads' HO439.out).2.1)
     rintro e w83 ⟨v443, rfl, ho0, hb⟩
     refine ⟨_, rfl, ?_⟩
     have n0_ := Aside0.mk (Kd.R_elder' zq11 (Kd.R_base ho0) hb)
     have n1_ := Aside0.mk (Kd.R_elder' zq10 (Kd.R_base ho0) hb)
     have n2_ := Aside0.mk (Kd.R_elder' zq8 (Kd.R_base ho0) hb)
     have n3_ := Aside0.mk (Kd.R_elder' zq25 (Kd.R_base ho0) hb)
     have n4_ := Aside0.mk (Kd.R_lower (Kd.R_new' (Kd.R_new' (Kd.R_new' (Kd.R_new' ho0 (Kd.R_lt zq11)) (Kd.R_lt zq10)) (Kd.R_lt zq8)) (Kd.R_lt zq25)) (below_size zq1))
     have n5_ := Aside0.mk (blk_below (g := gb396) (o := .cells #[.int .i64 a0_0, .int .i64 a0_1, .slice A0_2 l0_2.length c0_2] 24 (0, 0)) zq2 hb)
     have n6_ := Aside0.mk (blk_below (g := gb397) (o := .cells #[.int .i64 a1_0, .int .i64 a1_1] 26 (0, 0)) zq4 hb)
     have n7_ := Aside0.mk (blk_below (g := gb415) (o := .cells #[.int .i64 t410, .int .i64 t411, .slice Ao34 t430.length co34] 30 (0, 0)) zq7 hb)
     have n8_ := Aside0.mk (below_step zq1 hb)
     clear HO_8
     clear HO_11
     clear HO_416002
     clear HO439
     clear BK396
     clear BK397
     clear BK415
     clear HB
     have HO_8 := n0_
     have HO_11 := n1_
     have HO_416002 := n2_
     have HO439 := n3_
     have HO444 := n4_
     have BK396 := n5_
     have BK397 := n6_
     have BK415 := n7_
     have HB := n8_
     clear n0_ n1_ n2_ n3_ n4_ n5_ n6_ n7_ n8_
     (try clear hb)
     (try clear hb2)
     (try clear hk)
     (try clear hi)
     (try clear ho0)
     (try clear hna_)
     (try clear hnb_)
     refine hK.out _ _ ⟨(blk_cell BK396.out 0).trans rfl, (blk_cell BK396.out 1).trans rfl, (blk_cell BK396.out 2).trans rfl, (blk_cell BK397.out 0).trans rfl, (blk_cell BK397.out 1).trans rfl⟩ (fun hHeld => ?_)
     clear hK K
     refine norm_ (a' := ?_) ?_ ?_
     rotate_left
     ·show Act.put _ (some 89) _ = _
      simp only [Act.put, List.setIfInBounds_toArray, List.set_cons_zero, List.set_cons_succ, i64_w, i32_w]
      rfl
     refine pure_ (i := 6) (N := some 83) (v := ?_) (a' := ?_) #[true, true, true, true, true, true, true, false, false, false, false] rfl rfl (any_of HT_.out (by kernel_rfl)) (fun _ _ _ h => h) (Or.inl ⟨by rfl, ?_⟩) ?_ ?_
     rotate_left
     ·intro w'
      go_simp
      with_reducible rfl
     rotate_left
     ·simp only [Act.put, List.setIfInBounds_toArray, List.set_cons_zero, List.set_cons_succ, i64_w, i32_w]
      rfl
     refine pure_ (i := 7) (N := some 90) (v := ?_) (a' := ?_) #[true, true, true, true, true, true, true, true, false, false, false] rfl rfl (any_of HT_.out (by kernel_rfl)) (fun _ _ _ h => h) (Or.inl ⟨by rfl, ?_⟩) ?_ ?_
     rotate_left
     ·intro w'
      go_simp
      with_reducible rfl
     rotate_left
     ·simp only [Act.put, List.setIfInBounds_toArray, List.set_cons_zero, List.set_cons_succ, i64_w, i32_w]
      rfl
     refine pure_ (i := 8) (N := some 91) (v := ?_) (a' := ?_) #[true, true, true, true, true, true, true, true, true, false, false] rfl rfl (any_of HT_.out (by kernel_rfl)) (fun _ _ _ h => h) (Or.inl ⟨by rfl, ?_⟩) ?_ ?_
     rotate_left
     ·intro w'
      go_simp
      with_reducible rfl
     rotate_left
     ·simp only [Act.put, List.setIfInBounds_toArray, List.set_cons_zero, List.set_cons_succ, i64_w, i32_w]
      rfl
     refine pure_ (i := 9) (N := some 16) (v := ?_) (a' := ?_) #[true, true, true, true, true, true, true, true, true, true, false] rfl rfl (any_of HT_.out (by kernel_rfl)) (fun _ _ _ h => h) (Or.inl ⟨by rfl, ?_⟩) ?_ ?_
     rotate_left
     ·intro w'
      go_simp
      with_reducible rfl
     rotate_left
     ·simp only [Act.put, List.setIfInBounds_toArray, List.set_cons_zero, List.set_cons_succ, i64_w, i32_w]
      rfl
     refine pure_ (i := 10) (N := some 17) (v := ?_) (a' := ?_) #[true, true, true, true, true, true, true, true, true, true, true] rfl rfl (any_of HT_.out (by kernel_rfl)) (fun _ _ _ h => h) (Or.inl ⟨by rfl, ?_⟩) ?_ ?_
     rotate_left
     ·intro w'
      go_simp
      with_reducible rfl
     rotate_left
     ·simp only [Act.put, List.setIfInBounds_toArray, List.set_cons_zero, List.set_cons_succ, i64_w, i32_w]
      rfl
     refine done_ (done_of HT_.out (by kernel_rfl)) ?_
     go_upto_region 25 with (fail)
     go_cut [100] (fun v100 wc => ∃ (kq : Nat) (x100_75 : Bool), v100 = .bool x100_75 ∧ Aside0 (laws_FnExactFewestOnward.j2 kq t433 t432 x100_75 = some r) ∧ Aside0 (kq ≤ kj49) ∧ Aside0 (Kd.R (Kd.int .i64) 3 wc w.heap.size (fun k_ => some k_ ≠ ((.slice Ao34 t430.length co34) : Value).ownBlock) (.slice Ao77 t418.length co77) t433) ∧ Aside0 (Kd.R (Kd.int .i64) 3 wc w.heap.size (fun k_ => some k_ ≠ ((.slice Ao77 t418.length co77) : Value).ownBlock) (.slice Ao34 t430.length co34) t430) ∧ Aside0 (wc.heap[gb396]? = some (.cells #[.int .i64 a0_0, .int .i64 a0_1, (.slice A0_2 l0_2.length c0_2)] 24 (0, 0))) ∧ Aside0 (wc.heap[gb397]? = some (.cells #[.int .i64 a1_0, .int .i64 a1_1] 26 (0, 0))) ∧ Aside0 (wc.heap[gb415]? = some (.cells #[.int .i64 t410, .int .i64 t411, (.slice Ao34 t430.length co34)] 30 (0, 0))) ∧ Aside0 (Below w.heap.size w wc))
     case first =>
      have H := HC76.out
      clear HC76
      replace H := Option.bind_eq_some_iff.mp H
      obtain ⟨t446, A840, H⟩ := H
      replace H : (if t446 = true then (laws_FnExactFewestOnward.j2 kj49 t433 t432 (t445 != t409)) else (laws_FnExactFewestOnward.j2 kj49 t433 t432 true)) = some r := H
      have A84 := Aside0.mk A840
      clear A840
      by_cases c85 : t446 = true
      ·subst c85
       have H1 : (laws_FnExactFewestOnward.j2 kj49 t433 t432 (t445 != t409)) = some r := by rw [if_pos rfl] at H; exact H
       clear H
       have H := H1
       clear H1
       have H' := Aside0.mk H
       clear H
       obtain ⟨Ao86, co86, eo86⟩ := Kd.R_slice HO444.out
       subst eo86
       obtain ⟨Ao87, co87, eo87⟩ := Kd.R_slice HO_8.out
       subst eo87
       go_wp2_with (first | ((with_reducible refine gate_callee (f := 21) rfl ?_); refine goesL_ (some 94) rfl rfl Try.func21 (by kernel_rfl) rfl #[.slice Ao86 t442.length co86, .slice Ao87 t406.length co87] rfl zq3 ?_; (with_reducible refine (laws_eqIntS.calls kj49 _ _ t442 _ _ t406 true _ ?side1 ?side2 ?side3 ?side4 A84.out).mono ?_); (case side1 => exact zq30); (case side2 => exact (Kd.R_reads' HO444.out).2.1); (case side3 => exact zq18); (case side4 => exact (Kd.R_reads' HO_8.out).2.1); rintro e w' ⟨rfl, ⟨nd, rfl⟩⟩; refine ⟨_, rfl, ?_⟩))
       go_meet
       case rel => exact ⟨_, ((t445 != t409)), zq24, H', ⟨by have := HJ16.out; have := HJ49.out; first | omega | exact Nat.le_refl _⟩, ⟨zq28⟩, ⟨zq27⟩, ⟨zq36⟩, ⟨zq35⟩, ⟨zq34⟩, ⟨zq1⟩⟩
      replace c85 := Bool.eq_false_iff.mpr c85
      subst c85
      have H1 : (laws_FnExactFewestOnward.j2 kj49 t433 t432 true) = some r := by rw [if_neg (show ¬ (false = true) by decide)] at H; exact H
      clear H
      have H := H1
      clear H1
      have H' := Aside0.mk H
      clear H
      obtain ⟨Ao88, co88, eo88⟩ := Kd.R_slice HO444.out
      subst eo88
      obtain ⟨Ao89, co89, eo89⟩ := Kd.R_slice HO_8.out
      subst eo89
      go_wp2_with (first | ((with_reducible refine gate_callee (f := 21) rfl ?_); refine goesL_ (some 94) rfl rfl Try.func21 (by kernel_rfl) rfl #[.slice Ao88 t442.length co88, .slice Ao89 t406.length co89] rfl zq3 ?_; (with_reducible refine (laws_eqIntS.calls kj49 _ _ t442 _ _ t406 false _ ?side1 ?side2 ?side3 ?side4 A84.out).mono ?_); (case side1 => exact zq30); (case side2 => exact (Kd.R_reads' HO444.out).2.1); (case side3 => exact zq18); (case side4 => exact (Kd.R_reads' HO_8.out).2.1); rintro e w' ⟨rfl, ⟨nd, rfl⟩⟩; refine ⟨_, rfl, ?_⟩))
      go_meet
      case rel => exact ⟨_, (true), zq24, H', ⟨by have := HJ16.out; have := HJ49.out; first | omega | exact Nat.le_refl _⟩, ⟨zq28⟩, ⟨zq27⟩, ⟨zq36⟩, ⟨zq35⟩, ⟨zq34⟩, ⟨zq1⟩⟩
     case rest =>
      clear HC76
      try clear c1; try clear c2; try clear p2; try clear c3; try clear c4; try clear c5; try clear c5b0; try clear c6; try clear c7; try clear c8; try clear c15; try clear c17; try clear c18; try clear c20; try clear c21; try clear c22; try clear c23; try clear c24; try clear c25; try clear c26; try clear c27; try clear c31; try clear c32; try clear c40; try clear c45; try clear c48; try clear c55; try clear c56; try clear c59; try clear c59b0; try clear c61; try clear c66; try clear c69; try clear c69b0; try clear c72; try clear c72b0; try clear c72b1; try clear c85; try clear hcz21_0; try clear hcz21_1
      try clear hcz21_2; try clear hcz28_0; try clear hcz28_1; try clear hcz28_2; try clear hcz33_0; try clear hcz33_1; try clear hcz33_2; try clear hcz57_0; try clear hcz57_1; try clear hcz57_2; try clear hcz9_0; try clear hcz9_1; try clear hcz9_2; try clear hfz21_0; try clear hfz21_1; try clear hfz21_2; try clear hfz28_0; try clear hfz28_1; try clear hfz28_2; try clear hfz33_0; try clear hfz33_1; try clear hfz33_2; try clear hfz57_0; try clear hfz57_1; try clear hfz57_2; try clear hfz9_0; try clear hfz9_1; try clear hfz9_2; try clear p2
      obtain ⟨kq, x100_75, rfl, HA, HJ75, HO_11, HO_416002, BK396, BK397, BK415, HB⟩ := hcut
      have hl11_75 := (Kd.R_reads' HO_11.out).1
      rw [hl11_75] at HO_11
      (try simp only [hl11_75])
      (try simp only [hl11_75] at BK396)
      (try simp only [hl11_75] at BK397)
      (try simp only [hl11_75] at BK415)
      (try simp only [hl11_75] at HO_416002)
      cases kq with
      | zero => exact absurd HA.out (by simp [laws_FnExactFewestOnward.j2])
      | succ kj75 =>
       have H := HA.out
       clear HA
       simp only [laws_FnExactFewestOnward.j2] at H
       by_cases c90 : x100_75 = true
       ·subst c90
        have H1 : (some false) = some r := by rw [if_pos rfl] at H; exact H
        clear H
        have H := H1
        clear H1
        obtain rfl := Option.some.inj H
        go_wp2
        go_ret
        exact ⟨zq13, zq1⟩
       replace c90 := Bool.eq_false_iff.mpr c90
       subst c90
       have H1 : ((laws_heldIntS.f kj75 t433 1).bind fun t447 => (if t447 < 0 then (some false) else (if t447 = t432 then (some true) else (some false)))) = some r := by rw [if_neg (show ¬ (false = true) by decide)] at H; exact H
       clear H
       have H := H1
       clear H1
       replace H := Option.bind_eq_some_iff.mp H
       obtain ⟨t447, A910, H⟩ := H
       replace H : (if t447 < 0 then (some false) else (if t447 = t432 then (some true) else (some false))) = some r := H
       have A91 := Aside0.mk A910
       clear A910
       by_cases c92 : t447 < 0
       ·rw [if_pos c92] at H
        have c92b0 : decide (t447 < 0) = true := decide_eq_true c92
        clear c92
        obtain rfl := Option.some.inj H
        go_wp2_with (first | ((with_reducible refine gate_callee (f := 25) rfl ?_); refine goesL_ (some 103) rfl rfl Try.func25 (by kernel_rfl) rfl #[.slice Ao77 t433.length co77, .int .i64 1] rfl zq3 ?_; (with_reducible refine (laws_heldIntS.calls kj75 _ _ t433 1 t447 _ ?side1 ?side2 A91.out).mono ?_); (case side1 => exact zq9); (case side2 => exact (Kd.R_reads' HO_11.out).2.1); rintro e w' ⟨rfl, ⟨nd, rfl⟩⟩; refine ⟨_, rfl, ?_⟩))
        go_ret
        exact ⟨zq13, zq1⟩
       rw [if_neg c92] at H
       have c92b0 : decide (t447 < 0) = false := decide_eq_false c92
       clear c92
       by_cases c93 : t447 = t432
       rotate_left
       ·rw [if_neg c93] at H
        have c93b0 : (t447 == t432) = false := beq_eq_false_iff_ne.mpr c93
        have c93b1 : (t447 != t432) = true := bne_iff_ne.mpr c93
        obtain rfl := Option.some.inj H
        go_wp2_with (first | ((with_reducible refine gate_callee (f := 25) rfl ?_); refine goesL_ (some 103) rfl rfl Try.func25 (by kernel_rfl) rfl #[.slice Ao77 t433.length co77, .int .i64 1] rfl zq3 ?_; (with_reducible refine (laws_heldIntS.calls kj75 _ _ t433 1 t447 _ ?side1 ?side2 A91.out).mono ?_); (case side1 => exact zq9); (case side2 => exact (Kd.R_reads' HO_11.out).2.1); rintro e w' ⟨rfl, ⟨nd, rfl⟩⟩; refine ⟨_, rfl, ?_⟩))
        go_ret
        exact ⟨zq13, zq1⟩
       rw [if_pos c93] at H
       have c93b0 : (t447 == t432) = true := beq_iff_eq.mpr c93
       have c93b1 : (t447 != t432) = false := bne_eq_false_iff_eq.mpr c93
       clear c93
       obtain rfl := Option.some.inj H
       go_wp2_with (first | ((with_reducible refine gate_callee (f := 25) rfl ?_); refine goesL_ (some 103) rfl rfl Try.func25 (by kernel_rfl) rfl #[.slice Ao77 t433.length co77, .int .i64 1] rfl zq3 ?_; (with_reducible refine (laws_heldIntS.calls kj75 _ _ t433 1 t447 _ ?side1 ?side2 A91.out).mono ?_); (case side1 => exact zq9); (case side2 => exact (Kd.R_reads' HO_11.out).2.1); rintro e w' ⟨rfl, ⟨nd, rfl⟩⟩; refine ⟨_, rfl, ?_⟩))
       go_ret
       exact ⟨zq13, zq1⟩

end Go.Proofs.Ytjeongckkfkehaa.Q

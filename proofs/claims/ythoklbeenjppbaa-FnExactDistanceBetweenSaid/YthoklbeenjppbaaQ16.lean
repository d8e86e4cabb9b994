/- Written by a program of this session: functions of the translation as plain Lean functions, each with a proof that the call does what the plain function says; the conditions stand in each theorem. -/
import Derived.Test.YthoklbeenjppbaaQ0
import Derived.Test.YthoklbeenjppbaaQ1
import Derived.Test.YthoklbeenjppbaaQ2
import Derived.Test.YthoklbeenjppbaaQ5
import Derived.Test.YthoklbeenjppbaaQ15
namespace Go.Proofs.Ythoklbeenjppbaa.Q
open Go.RowKit Go.Proofs.YthoklbeenjppbaaW.PrintWords Go.Proofs.YthoklbeenjppbaaW.PrintLast Go.Proofs.YthoklbeenjppbaaW.PrintMore
attribute [local go_sem] max2_int min2_int max_two min_two max_three min_three max_four min_four   -- for this text's walks alone
set_option linter.unusedVariables false
set_option linter.unusedSimpArgs false

theorem zq1 {p : Prop} (h : p := by repeat (first | (with_reducible first | exact HB.out | apply below_alloc | apply pw_below_drewN | apply below_drew1 | refine below_set ?_ GE408.out | refine below_set ?_ GE409.out | refine below_set ?_ GE425.out) | exact HB.out)) : p := h
theorem zq2 {p : Prop} (h : p := by (with_reducible repeat (first | refine blk_drewN ?_ _ | refine blk_drew ?_ | refine blk_alloc ?_ _)); exact BK408.out) : p := h
theorem zq3 {p : Prop} (h : p := by repeat (first | (with_reducible first | exact HB.out | apply below_alloc | apply pw_below_drewN | apply below_drew1 | refine below_set ?_ GE408.out | refine below_set ?_ GE409.out) | exact HB.out)) : p := h
theorem zq5 {p : Prop} (h : p := by (with_reducible repeat (first | refine blk_drewN ?_ _ | refine blk_drew ?_ | refine blk_alloc ?_ _)); exact BK409.out) : p := h
theorem zq6 {p : Prop} (h : p := by (try simp only [List.map_toArray, List.map_cons, List.map_nil]); first | done | rfl | (simp only [List.length_drop, List.length_take]; rfl)) : p := h
theorem zq7 {p : Prop} (h : p := by repeat (first | exact (Kd.C_below HR0_2.out HB.out) | (with_reducible refine Kd.C_alloc ?_ _) | (with_reducible refine Kd.C_drewN ?_ _) | (with_reducible refine Kd.C_drew ?_))) : p := h
theorem zq8 {p : Prop} (h : p := by repeat (first | (with_reducible first | exact HB.out | apply below_alloc | apply pw_below_drewN | apply below_drew1 | refine below_set ?_ GE408.out) | exact HB.out)) : p := h
theorem zq9 {p : Prop} (h : p := by (with_reducible repeat (first | refine blk_drewN ?_ _ | refine blk_drew ?_ | refine blk_alloc ?_ _)); exact BK425.out) : p := h
theorem zq10 {p : Prop} (h : p := by repeat (first | (with_reducible first | exact HB.out | apply below_alloc | apply pw_below_drewN | apply below_drew1) | exact HB.out)) : p := h
theorem zq11 {p : Prop} (h : p := by (with_reducible repeat (first | apply Kd.R_alloc | apply Kd.R_drewN | apply Kd.R_drew)); exact HO415.out) : p := h
theorem zq12 {p : Prop} (h : p := by (with_reducible repeat (first | apply Kd.R_alloc | apply Kd.R_drewN | apply Kd.R_drew)); exact HO_426002.out) : p := h
theorem zq13 {p : Prop} (h : p := by first | rfl | (simp [errW_none, errW_some] <;> rfl) | (simp [*, errW_none, errW_some] <;> rfl)) : p := h
theorem zq14 {p : Prop} (h : p := by (with_reducible repeat (first | apply Kd.R_alloc | apply Kd.R_drewN | apply Kd.R_drew)); exact HO424.out) : p := h
theorem zq15 {p : Prop} (h : p := by repeat (first | exact (Kd.R_reads' HO_426002.out).2.2 | (with_reducible refine Kd.C_alloc ?_ _) | (with_reducible refine Kd.C_drewN ?_ _) | (with_reducible refine Kd.C_drew ?_))) : p := h
theorem zq16 {p : Prop} (h : p := by repeat (first | exact (Kd.R_reads' HO434.out).2.2 | (with_reducible refine Kd.C_alloc ?_ _) | (with_reducible refine Kd.C_drewN ?_ _) | (with_reducible refine Kd.C_drew ?_))) : p := h
theorem zq17 {p : Prop} (h : p := by (with_reducible repeat (first | apply Kd.R_alloc | apply Kd.R_drewN | apply Kd.R_drew)); exact Kd.R_mono HO424.out (fun _ hk => trivial)) : p := h
theorem zq18 {p : Prop} (h : p := by rw [hg]; exact Nat.ne_of_lt (blk_lt (g := gb408) (o := .cells #[.int .i64 a0_0, .int .i64 a0_1, .slice A0_2 l0_2.length c0_2] 24 (0, 0)) zq2)) : p := h
theorem zq19 {p : Prop} (h : p := by rw [hg]; exact Nat.ne_of_gt (blk_lt (g := gb408) (o := .cells #[.int .i64 a0_0, .int .i64 a0_1, .slice A0_2 l0_2.length c0_2] 24 (0, 0)) zq2)) : p := h
/-! ### laws_FnExactDistanceBetween: function 4 -/
def laws_FnExactDistanceBetween.j0 : Nat → Bool → Int → Int → List Int → Int → Int → List Int → Option (Bool)
 | 0, _, _, _, _, _, _, _ => none
 | k + 1, x48, x409000, x409001, x409002, x426000, x426001, x426002 => if x48 = true then (some false) else ((laws_toBoard.f k x409000 x409001 x409002).bind fun bt430 => ((laws_eqBoard.f k x426000 x426001 x426002 bt430.1 bt430.2.1 bt430.2.2).bind fun t435 => (if t435 = true then (some true) else (some false))))
def laws_FnExactDistanceBetween.f (k : Nat) (a0_0 : Int) (a0_1 : Int) (l0_2 : List Int) (a1_0 : Int) (a1_1 : Int) (a2 : Int) (a3 : Int) : Option (Bool) := (laws_szBoard.f a0_0 a0_1 l0_2 1048576).bind fun t410 => (if t410 < 0 then (some true) else ((laws_toBoard.f k a0_0 a0_1 l0_2).bind fun bt411 => ((laws_toLeaper.f a1_0 a1_1).bind fun bt416 => ((spec_DistanceBetween.f k bt411.1 bt411.2.1 bt411.2.2 bt416.1 bt416.2 a2 a3).bind fun bt418 => ((laws_toBoard.f k a0_0 a0_1 l0_2).bind fun bt420 => ((laws_toLeaper.f a1_0 a1_1).bind fun bt426 => ((impl_DistanceBetween.f k bt420.1 bt420.2.1 bt420.2.2 bt426.1 bt426.2 a2 a3).bind fun bt428 => (if bt428.1 = bt418.1 then (laws_FnExactDistanceBetween.j0 k (bt428.2 != bt418.2) a0_0 a0_1 l0_2 bt420.1 bt420.2.1 bt420.2.2) else (laws_FnExactDistanceBetween.j0 k true a0_0 a0_1 l0_2 bt420.1 bt420.2.1 bt420.2.2)))))))))
def laws_FnExactDistanceBetween.T5 : Bool × List (List Nat × List Nat) := (true, [([], []), ([0], [0]), ([], []), ([2, 1], [2]), ([], []), ([], []), ([1, 3, 4, 5, 3], [1, 3, 4, 5]), ([6], [6]), ([7], [7]), ([7], [7]), ([8, 6, 0, 1, 2, 3, 4, 5, 6, 7, 8], [8]), ([9, 10, 0, 1, 2, 3, 4, 5, 6, 7, 8, 9, 10], [9])])
def laws_FnExactDistanceBetween.B5 : List Nat := [0, 1, 0, 7, 0, 0, 63, 127, 255, 255, 511, 2047]
theorem laws_FnExactDistanceBetween.tab5 : rtab .any (opsOf Try.f4 5) = laws_FnExactDistanceBetween.T5 := by kernel_rfl
theorem laws_FnExactDistanceBetween.bits5 : waitsOk laws_FnExactDistanceBetween.T5.2 laws_FnExactDistanceBetween.B5 = true := by kernel_rfl
def laws_FnExactDistanceBetween.T7 : Bool × List (List Nat × List Nat) := (true, [([], []), ([], []), ([1], [1]), ([], []), ([], []), ([0, 2, 3, 4, 2], [0, 2, 3, 4]), ([5], [5]), ([6], [6]), ([6], [6]), ([7, 5, 0, 1, 2, 3, 4, 5, 6, 7], [7]), ([8, 9, 0, 1, 2, 3, 4, 5, 6, 7, 8, 9], [8])])
def laws_FnExactDistanceBetween.B7 : List Nat := [0, 0, 2, 0, 0, 31, 63, 127, 127, 255, 1023]
theorem laws_FnExactDistanceBetween.tab7 : rtab .any (opsOf Try.f4 7) = laws_FnExactDistanceBetween.T7 := by kernel_rfl
theorem laws_FnExactDistanceBetween.bits7 : waitsOk laws_FnExactDistanceBetween.T7.2 laws_FnExactDistanceBetween.B7 = true := by kernel_rfl
set_option maxHeartbeats 8000000 in
set_option maxRecDepth 100000 in
theorem laws_FnExactDistanceBetween.calls (k : Nat) (a0_0 : Int) (a0_1 : Int) (A0_2 : Option Addr) (c0_2 : Nat) (l0_2 : List Int) (a1_0 : Int) (a1_1 : Int) (a2 : Int) (a3 : Int) (r : Bool) (w : World) (hr0_2 : Kd.C (Kd.int .i64) w A0_2 l0_2.length l0_2) (hc0_2 : l0_2.length ≤ c0_2) (h : laws_FnExactDistanceBetween.f k a0_0 a0_1 l0_2 a1_0 a1_1 a2 a3 = some r) :
  Calls Try.prog 4 #[.agg #[.int .i64 a0_0, .int .i64 a0_1, .slice A0_2 l0_2.length c0_2], .agg #[.int .i64 a1_0, .int .i64 a1_1], .int .i64 a2, .int .i64 a3] w fun e w' => e = .returned (.bool r) ∧ Below w.heap.size w w' := by
 have hu24 := Try.underlying24
 have hu26 := Try.underlying26
 have hu30 := Try.underlying30
 have HR0_2 := Aside0.mk hr0_2
 have HC0_2 := Aside0.mk hc0_2
 clear hr0_2 hc0_2
 have HB := Aside0.mk (Below.refl w.heap.size w)
 have H : ((laws_szBoard.f a0_0 a0_1 l0_2 1048576).bind fun t410 => (if t410 < 0 then (some true) else ((laws_toBoard.f k a0_0 a0_1 l0_2).bind fun bt411 => ((laws_toLeaper.f a1_0 a1_1).bind fun bt416 => ((spec_DistanceBetween.f k bt411.1 bt411.2.1 bt411.2.2 bt416.1 bt416.2 a2 a3).bind fun bt418 => ((laws_toBoard.f k a0_0 a0_1 l0_2).bind fun bt420 => ((laws_toLeaper.f a1_0 a1_1).bind fun bt426 => ((impl_DistanceBetween.f k bt420.1 bt420.2.1 bt420.2.2 bt426.1 bt426.2 a2 a3).bind fun bt428 => (if bt428.1 = bt418.1 then (laws_FnExactDistanceBetween.j0 k (bt428.2 != bt418.2) a0_0 a0_1 l0_2 bt420.1 bt420.2.1 bt420.2.2) else (laws_FnExactDistanceBetween.j0 k true a0_0 a0_1 l0_2 bt420.1 bt420.2.1 bt420.2.2)))))))))) = some r := h
 clear h
 replace H := Option.bind_eq_some_iff.mp H
 obtain ⟨t410, A50, H⟩ := H
 replace H : (if t410 < 0 then (some true) else ((laws_toBoard.f k a0_0 a0_1 l0_2).bind fun bt411 => ((laws_toLeaper.f a1_0 a1_1).bind fun bt416 => ((spec_DistanceBetween.f k bt411.1 bt411.2.1 bt411.2.2 bt416.1 bt416.2 a2 a3).bind fun bt418 => ((laws_toBoard.f k a0_0 a0_1 l0_2).bind fun bt420 => ((laws_toLeaper.f a1_0 a1_1).bind fun bt426 => ((impl_DistanceBetween.f k bt420.1 bt420.2.1 bt420.2.2 bt426.1 bt426.2 a2 a3).bind fun bt428 => (if bt428.1 = bt418.1 then (laws_FnExactDistanceBetween.j0 k (bt428.2 != bt418.2) a0_0 a0_1 l0_2 bt420.1 bt420.2.1 bt420.2.2) else (laws_FnExactDistanceBetween.j0 k true a0_0 a0_1 l0_2 bt420.1 bt420.2.1 bt420.2.2))))))))) = some r := H
 have A5 := Aside0.mk A50
 clear A50
 by_cases c6 : t410 < 0
 ·rw [if_pos c6] at H
  have c6b0 : decide (t410 < 0) = true := decide_eq_true c6
  clear c6
  obtain rfl := Option.some.inj H
  go_enter Try.func4, Try.ntmps4
  go_wp2_with (first | ((with_reducible refine gate_dst (N := 4) rfl ?_); refine box_event ?hg (N := 4) ?hd (cs := #[.int .i64 a0_0, .int .i64 a0_1, .slice A0_2 l0_2.length c0_2]) (t := 24) ?hr ?_; (case hd => rfl); (case hg => rfl); (case hr => first | (go_simp; done) | (go_simp; rfl)); intro gb408 hg w7 hbox hb; have n0_ := Aside0.mk (below_step zq10 hb); have n1_ := Aside0.mk (hbox); have n2_ := Aside0.mk ((by rw [hg]; exact (below_size zq10) : w.heap.size ≤ gb408)); have n3_ := Aside0.mk ((by rw [hg]; exact (below_size zq10) : w.heap.size ≤ gb408)); clear HB; have HB := n0_; have BK408 := n1_; have GW408 := n2_; have GE408 := n3_; clear n0_ n1_ n2_ n3_; clear hb hbox hg) | ((with_reducible refine gate_dst (N := 5) rfl ?_); refine box_event ?hg (N := 5) ?hd (cs := #[.int .i64 a1_0, .int .i64 a1_1]) (t := 26) ?hr ?_; (case hd => rfl); (case hg => rfl); (case hr => first | (go_simp; done) | (go_simp; rfl)); intro gb409 hg w8 hbox hb; have n0_ := Aside0.mk (blk_below (g := gb408) (o := .cells #[.int .i64 a0_0, .int .i64 a0_1, .slice A0_2 l0_2.length c0_2] 24 (0, 0)) zq2 hb); have n1_ := Aside0.mk (below_step zq8 hb); have n2_ := Aside0.mk (hbox); have n3_ := Aside0.mk ((by rw [hg]; exact (below_size zq8) : w.heap.size ≤ gb409)); have n4_ := Aside0.mk ((by rw [hg]; exact (below_size zq8) : w.heap.size ≤ gb409)); have n5_ := Aside0.mk ((zq18 : gb408 ≠ gb409)); have n6_ := Aside0.mk ((zq19 : gb409 ≠ gb408)); clear BK408; clear HB; have BK408 := n0_; have HB := n1_; have BK409 := n2_; have GW409 := n3_; have GE409 := n4_; have NB408_409 := n5_; have NB409_408 := n6_; clear n0_ n1_ n2_ n3_ n4_ n5_ n6_; clear hb hbox hg; have hnb9 := NB408_409.out; have hnc9 := NB409_408.out; have hcz10_0 : w8.cell? ⟨gb408, 0, none⟩ = some (.int .i64 a0_0) := (blk_cell BK408.out 0).trans rfl; have hcz10_1 : w8.cell? ⟨gb408, 1, none⟩ = some (.int .i64 a0_1) := (blk_cell BK408.out 1).trans rfl; have hcz10_2 : w8.cell? ⟨gb408, 2, none⟩ = some (.slice A0_2 l0_2.length c0_2) := (blk_cell BK408.out 2).trans rfl; have hfz10_0 := blk_frozen BK408.out 0; have hfz10_1 := blk_frozen BK408.out 1; have hfz10_2 := blk_frozen BK408.out 2) | ((with_reducible refine gate_callee (f := 15) rfl ?_); refine goesL_ (some 17) rfl rfl Try.func15 (by kernel_rfl) rfl #[.agg #[.int .i64 a0_0, .int .i64 a0_1, .slice A0_2 l0_2.length c0_2], .int .i64 1048576] rfl zq6 ?_; (with_reducible refine (laws_szBoard.calls a0_0 a0_1 _ _ l0_2 1048576 t410 _ ?side1 ?side2 A5.out).mono ?_); (case side1 => exact zq7); (case side2 => exact HC0_2.out); rintro e w11 ⟨rfl, hb⟩; refine ⟨_, rfl, ?_⟩; have n0_ := Aside0.mk (blk_below (g := gb408) (o := .cells #[.int .i64 a0_0, .int .i64 a0_1, .slice A0_2 l0_2.length c0_2] 24 (0, 0)) zq2 hb); have n1_ := Aside0.mk (blk_below (g := gb409) (o := .cells #[.int .i64 a1_0, .int .i64 a1_1] 26 (0, 0)) zq5 hb); have n2_ := Aside0.mk (below_step zq3 hb); clear BK408; clear BK409; clear HB; have BK408 := n0_; have BK409 := n1_; have HB := n2_; clear n0_ n1_ n2_; (try clear hb); (try clear hb2); (try clear hk); (try clear hi); (try clear hna_); (try clear hnb_)))
  go_ret
  exact ⟨zq13, zq3⟩
 rw [if_neg c6] at H
 have c6b0 : decide (t410 < 0) = false := decide_eq_false c6
 clear c6
 replace H := Option.bind_eq_some_iff.mp H
 obtain ⟨⟨t411, t412, t413⟩, A120, H⟩ := H
 replace H : ((laws_toLeaper.f a1_0 a1_1).bind fun bt416 => ((spec_DistanceBetween.f k t411 t412 t413 bt416.1 bt416.2 a2 a3).bind fun bt418 => ((laws_toBoard.f k a0_0 a0_1 l0_2).bind fun bt420 => ((laws_toLeaper.f a1_0 a1_1).bind fun bt426 => ((impl_DistanceBetween.f k bt420.1 bt420.2.1 bt420.2.2 bt426.1 bt426.2 a2 a3).bind fun bt428 => (if bt428.1 = bt418.1 then (laws_FnExactDistanceBetween.j0 k (bt428.2 != bt418.2) a0_0 a0_1 l0_2 bt420.1 bt420.2.1 bt420.2.2) else (laws_FnExactDistanceBetween.j0 k true a0_0 a0_1 l0_2 bt420.1 bt420.2.1 bt420.2.2))))))) = some r := H
 have A12 := Aside0.mk A120
 clear A120
 replace H := Option.bind_eq_some_iff.mp H
 obtain ⟨⟨t416, t417⟩, A130, H⟩ := H
 replace H : ((spec_DistanceBetween.f k t411 t412 t413 t416 t417 a2 a3).bind fun bt418 => ((laws_toBoard.f k a0_0 a0_1 l0_2).bind fun bt420 => ((laws_toLeaper.f a1_0 a1_1).bind fun bt426 => ((impl_DistanceBetween.f k bt420.1 bt420.2.1 bt420.2.2 bt426.1 bt426.2 a2 a3).bind fun bt428 => (if bt428.1 = bt418.1 then (laws_FnExactDistanceBetween.j0 k (bt428.2 != bt418.2) a0_0 a0_1 l0_2 bt420.1 bt420.2.1 bt420.2.2) else (laws_FnExactDistanceBetween.j0 k true a0_0 a0_1 l0_2 bt420.1 bt420.2.1 bt420.2.2)))))) = some r := H
 have A13 := Aside0.mk A130
 clear A130
 replace H := Option.bind_eq_some_iff.mp H
 obtain ⟨⟨t418, t419⟩, A140, H⟩ := H
 replace H : ((laws_toBoard.f k a0_0 a0_1 l0_2).bind fun bt420 => ((laws_toLeaper.f a1_0 a1_1).bind fun bt426 => ((impl_DistanceBetween.f k bt420.1 bt420.2.1 bt420.2.2 bt426.1 bt426.2 a2 a3).bind fun bt428 => (if bt428.1 = t418 then (laws_FnExactDistanceBetween.j0 k (bt428.2 != t419) a0_0 a0_1 l0_2 bt420.1 bt420.2.1 bt420.2.2) else (laws_FnExactDistanceBetween.j0 k true a0_0 a0_1 l0_2 bt420.1 bt420.2.1 bt420.2.2))))) = some r := H
 have A14 := Aside0.mk A140
 clear A140
 replace H := Option.bind_eq_some_iff.mp H
 obtain ⟨⟨t420, t421, t422⟩, A150, H⟩ := H
 replace H : ((laws_toLeaper.f a1_0 a1_1).bind fun bt426 => ((impl_DistanceBetween.f k t420 t421 t422 bt426.1 bt426.2 a2 a3).bind fun bt428 => (if bt428.1 = t418 then (laws_FnExactDistanceBetween.j0 k (bt428.2 != t419) a0_0 a0_1 l0_2 t420 t421 t422) else (laws_FnExactDistanceBetween.j0 k true a0_0 a0_1 l0_2 t420 t421 t422)))) = some r := H
 have A15 := Aside0.mk A150
 clear A150
 replace H := Option.bind_eq_some_iff.mp H
 obtain ⟨⟨t426, t427⟩, A160, H⟩ := H
 replace H : ((impl_DistanceBetween.f k t420 t421 t422 t426 t427 a2 a3).bind fun bt428 => (if bt428.1 = t418 then (laws_FnExactDistanceBetween.j0 k (bt428.2 != t419) a0_0 a0_1 l0_2 t420 t421 t422) else (laws_FnExactDistanceBetween.j0 k true a0_0 a0_1 l0_2 t420 t421 t422))) = some r := H
 have A16 := Aside0.mk A160
 clear A160
 replace H := Option.bind_eq_some_iff.mp H
 obtain ⟨⟨t428, t429⟩, A170, H⟩ := H
 replace H : (if t428 = t418 then (laws_FnExactDistanceBetween.j0 k (t429 != t419) a0_0 a0_1 l0_2 t420 t421 t422) else (laws_FnExactDistanceBetween.j0 k true a0_0 a0_1 l0_2 t420 t421 t422)) = some r := H
 have A17 := Aside0.mk A170
 clear A170
 have HC18 := Aside0.mk H
 clear H
 go_enter Try.func4, Try.ntmps4
 try go_wp2_with (first | ((with_reducible refine gate_dst (N := 4) rfl ?_); refine box_event ?hg (N := 4) ?hd (cs := #[.int .i64 a0_0, .int .i64 a0_1, .slice A0_2 l0_2.length c0_2]) (t := 24) ?hr ?_; (case hd => rfl); (case hg => rfl); (case hr => first | (go_simp; done) | (go_simp; rfl)); intro gb408 hg w19 hbox hb; have n0_ := Aside0.mk (below_step zq10 hb); have n1_ := Aside0.mk (hbox); have n2_ := Aside0.mk ((by rw [hg]; exact (below_size zq10) : w.heap.size ≤ gb408)); have n3_ := Aside0.mk ((by rw [hg]; exact (below_size zq10) : w.heap.size ≤ gb408)); clear HB; have HB := n0_; have BK408 := n1_; have GW408 := n2_; have GE408 := n3_; clear n0_ n1_ n2_ n3_; clear hb hbox hg) | ((with_reducible refine gate_dst (N := 5) rfl ?_); refine box_event ?hg (N := 5) ?hd (cs := #[.int .i64 a1_0, .int .i64 a1_1]) (t := 26) ?hr ?_; (case hd => rfl); (case hg => rfl); (case hr => first | (go_simp; done) | (go_simp; rfl)); intro gb409 hg w20 hbox hb; have n0_ := Aside0.mk (blk_below (g := gb408) (o := .cells #[.int .i64 a0_0, .int .i64 a0_1, .slice A0_2 l0_2.length c0_2] 24 (0, 0)) zq2 hb); have n1_ := Aside0.mk (below_step zq8 hb); have n2_ := Aside0.mk (hbox); have n3_ := Aside0.mk ((by rw [hg]; exact (below_size zq8) : w.heap.size ≤ gb409)); have n4_ := Aside0.mk ((by rw [hg]; exact (below_size zq8) : w.heap.size ≤ gb409)); have n5_ := Aside0.mk ((zq18 : gb408 ≠ gb409)); have n6_ := Aside0.mk ((zq19 : gb409 ≠ gb408)); clear BK408; clear HB; have BK408 := n0_; have HB := n1_; have BK409 := n2_; have GW409 := n3_; have GE409 := n4_; have NB408_409 := n5_; have NB409_408 := n6_; clear n0_ n1_ n2_ n3_ n4_ n5_ n6_; clear hb hbox hg; have hnb21 := NB408_409.out; have hnc21 := NB409_408.out; have hcz22_0 : w20.cell? ⟨gb408, 0, none⟩ = some (.int .i64 a0_0) := (blk_cell BK408.out 0).trans rfl; have hcz22_1 : w20.cell? ⟨gb408, 1, none⟩ = some (.int .i64 a0_1) := (blk_cell BK408.out 1).trans rfl; have hcz22_2 : w20.cell? ⟨gb408, 2, none⟩ = some (.slice A0_2 l0_2.length c0_2) := (blk_cell BK408.out 2).trans rfl; have hfz22_0 := blk_frozen BK408.out 0; have hfz22_1 := blk_frozen BK408.out 1; have hfz22_2 := blk_frozen BK408.out 2) | ((with_reducible refine gate_callee (f := 15) rfl ?_); refine goesL_ (some 17) rfl rfl Try.func15 (by kernel_rfl) rfl #[.agg #[.int .i64 a0_0, .int .i64 a0_1, .slice A0_2 l0_2.length c0_2], .int .i64 1048576] rfl zq6 ?_; (with_reducible refine (laws_szBoard.calls a0_0 a0_1 _ _ l0_2 1048576 t410 _ ?side1 ?side2 A5.out).mono ?_); (case side1 => exact zq7); (case side2 => exact HC0_2.out); rintro e w23 ⟨rfl, hb⟩; refine ⟨_, rfl, ?_⟩; have n0_ := Aside0.mk (blk_below (g := gb408) (o := .cells #[.int .i64 a0_0, .int .i64 a0_1, .slice A0_2 l0_2.length c0_2] 24 (0, 0)) zq2 hb); have n1_ := Aside0.mk (blk_below (g := gb409) (o := .cells #[.int .i64 a1_0, .int .i64 a1_1] 26 (0, 0)) zq5 hb); have n2_ := Aside0.mk (below_step zq3 hb); clear BK408; clear BK409; clear HB; have BK408 := n0_; have BK409 := n1_; have HB := n2_; clear n0_ n1_ n2_; (try clear hb); (try clear hb2); (try clear hk); (try clear hi); (try clear hna_); (try clear hnb_)))
 have n0_ := Aside0.mk (blk_drew BK408.out)
 have n1_ := Aside0.mk (blk_drew BK409.out)
 have n2_ := Aside0.mk (below_drew1 HB.out)
 clear BK408
 clear BK409
 clear HB
 have BK408 := n0_
 have BK409 := n1_
 have HB := n2_
 clear n0_ n1_ n2_
 refine start_ (n := 12) (S := fun w' => w'.cell? ⟨gb408, 0, none⟩ = some (.int .i64 a0_0) ∧ w'.cell? ⟨gb408, 1, none⟩ = some (.int .i64 a0_1) ∧ w'.cell? ⟨gb408, 2, none⟩ = some (.slice A0_2 l0_2.length c0_2) ∧ w'.cell? ⟨gb409, 0, none⟩ = some (.int .i64 a1_0) ∧ w'.cell? ⟨gb409, 1, none⟩ = some (.int .i64 a1_1)) (ds := []) #[false, false, false, false, false, false, false, false, false, false, false, false] (by kernel_rfl) rfl rfl ⟨(blk_cell BK408.out 0).trans rfl, (blk_cell BK408.out 1).trans rfl, (blk_cell BK408.out 2).trans rfl, (blk_cell BK409.out 0).trans rfl, (blk_cell BK409.out 1).trans rfl⟩ (fun hHeld => ?_); refine with_tabW laws_FnExactDistanceBetween.tab5 laws_FnExactDistanceBetween.bits5 (fun HT_ HW_ => ?_)
 generalize w23.drew = w24 at BK408 BK409 HB hHeld ⊢
 refine pure_ (i := 4) (N := some 25) (v := ?_) (a' := ?_) #[false, false, false, false, true, false, false, false, false, false, false, false] rfl rfl (any_of HT_.out (by kernel_rfl)) (fun _ _ _ h => h) (Or.inl ⟨by rfl, ?_⟩) ?_ ?_
 rotate_left
 ·intro w'
  go_simp
  with_reducible rfl
 rotate_left
 ·simp only [Act.put, List.setIfInBounds_toArray, List.set_cons_zero, List.set_cons_succ, i64_w, i32_w]
  rfl
 refine pure_ (i := 5) (N := some 26) (v := ?_) (a' := ?_) #[false, false, false, false, true, true, false, false, false, false, false, false] rfl rfl (any_of HT_.out (by kernel_rfl)) (fun _ _ _ h => h) (Or.inl ⟨by rfl, ?_⟩) ?_ ?_
 rotate_left
 ·intro w'
  go_simp
  with_reducible rfl
 rotate_left
 ·simp only [Act.put, List.setIfInBounds_toArray, List.set_cons_zero, List.set_cons_succ, i64_w, i32_w]
  rfl
 refine take_ (i := 0) (N := some 21) (v := ?_) (a' := ?_) #[true, false, false, false, true, true, false, false, false, false, false, false] rfl rfl (take_ofW HT_.out HW_.out (by kernel_rfl)) (fun _ _ _ h => h) (Or.inl ⟨by rfl, ?_⟩) hHeld ?_ ?_
 rotate_left
 ·rintro w' ⟨s0, s1, s2, s3, s4⟩
  go_simp
  with_reducible rfl
 rotate_left
 ·simp only [Act.put, List.setIfInBounds_toArray, List.set_cons_zero, List.set_cons_succ, i64_w, i32_w]
  rfl
 refine take_ (i := 2) (N := some 23) (v := ?_) (a' := ?_) #[true, false, true, false, true, true, false, false, false, false, false, false] rfl rfl (take_ofW HT_.out HW_.out (by kernel_rfl)) (fun _ _ _ h => h) (Or.inl ⟨by rfl, ?_⟩) hHeld ?_ ?_
 rotate_left
 ·rintro w' ⟨s0, s1, s2, s3, s4⟩
  go_simp
  with_reducible rfl
 rotate_left
 ·simp only [Act.put, List.setIfInBounds_toArray, List.set_cons_zero, List.set_cons_succ, i64_w, i32_w]
  rfl
 refine one_ (i := 1) (N := some 22) #[true, true, true, false, true, true, false, false, false, false, false, false] rfl rfl (one_of HT_.out (by kernel_rfl)) (by decide) (fun K hK => ?_)
 refine goes_ Try.func17 (by kernel_rfl) rfl #[.agg #[.int .i64 a0_0, .int .i64 a0_1, .slice A0_2 l0_2.length c0_2]] (by rfl) rfl rfl zq6 ?_
 with_reducible refine (laws_toBoard.calls k a0_0 a0_1 _ _ l0_2 t411 t412 t413 _ ?side1 ?side2 A12.out).mono ?_
 (case side1 => exact zq7)
 (case side2 => exact HC0_2.out)
 rintro e w25 ⟨v414, rfl, ho0, hb⟩
 refine ⟨_, rfl, ?_⟩
 have n0_ := Aside0.mk (Kd.R_lower ho0 (below_size zq3))
 have n1_ := Aside0.mk (blk_below (g := gb408) (o := .cells #[.int .i64 a0_0, .int .i64 a0_1, .slice A0_2 l0_2.length c0_2] 24 (0, 0)) zq2 hb)
 have n2_ := Aside0.mk (blk_below (g := gb409) (o := .cells #[.int .i64 a1_0, .int .i64 a1_1] 26 (0, 0)) zq5 hb)
 have n3_ := Aside0.mk (below_step zq3 hb)
 clear BK408
 clear BK409
 clear HB
 have HO415 := n0_
 have BK408 := n1_
 have BK409 := n2_
 have HB := n3_
 clear n0_ n1_ n2_ n3_
 (try clear hb)
 (try clear hb2)
 (try clear hk)
 (try clear hi)
 (try clear ho0)
 (try clear hna_)
 (try clear hnb_)
 refine hK.out _ _ ⟨(blk_cell BK408.out 0).trans rfl, (blk_cell BK408.out 1).trans rfl, (blk_cell BK408.out 2).trans rfl, (blk_cell BK409.out 0).trans rfl, (blk_cell BK409.out 1).trans rfl⟩ (fun hHeld => ?_)
 clear hK K
 refine norm_ (a' := ?_) ?_ ?_
 rotate_left
 ·show Act.put _ (some 22) _ = _
  simp only [Act.put, List.setIfInBounds_toArray, List.set_cons_zero, List.set_cons_succ, i64_w, i32_w]
  rfl
 refine one_ (i := 3) (N := some 24) #[true, true, true, true, true, true, false, false, false, false, false, false] rfl rfl (one_of HT_.out (by kernel_rfl)) (by decide) (fun K hK => ?_)
 refine goes_ Try.func18 (by kernel_rfl) rfl #[.agg #[.int .i64 a1_0, .int .i64 a1_1]] (by rfl) rfl rfl zq6 ?_
 with_reducible refine (laws_toLeaper.calls a1_0 a1_1 t416 t417 _ A13.out).mono ?_
 rintro e w26 ⟨rfl, hb⟩
 refine ⟨_, rfl, ?_⟩
 have n0_ := Aside0.mk (Kd.R_below zq11 hb)
 have n1_ := Aside0.mk (blk_below (g := gb408) (o := .cells #[.int .i64 a0_0, .int .i64 a0_1, .slice A0_2 l0_2.length c0_2] 24 (0, 0)) zq2 hb)
 have n2_ := Aside0.mk (blk_below (g := gb409) (o := .cells #[.int .i64 a1_0, .int .i64 a1_1] 26 (0, 0)) zq5 hb)
 have n3_ := Aside0.mk (below_step zq3 hb)
 clear HO415
 clear BK408
 clear BK409
 clear HB
 have HO415 := n0_
 have BK408 := n1_
 have BK409 := n2_
 have HB := n3_
 clear n0_ n1_ n2_ n3_
 (try clear hb)
 (try clear hb2)
 (try clear hk)
 (try clear hi)
 (try clear hna_)
 (try clear hnb_)
 obtain ⟨Ao27, co27, eo27⟩ := Kd.R_slice HO415.out
 (first | subst eo27 | (injection eo27 with f1_ f2_ f3_; have f4_ := f1_.symm; have f5_ := f3_.symm; clear f1_ f2_ f3_; subst f4_; subst f5_))
 refine hK.out _ _ ⟨(blk_cell BK408.out 0).trans rfl, (blk_cell BK408.out 1).trans rfl, (blk_cell BK408.out 2).trans rfl, (blk_cell BK409.out 0).trans rfl, (blk_cell BK409.out 1).trans rfl⟩ (fun hHeld => ?_)
 clear hK K
 refine norm_ (a' := ?_) ?_ ?_
 rotate_left
 ·show Act.put _ (some 24) _ = _
  simp only [Act.put, List.setIfInBounds_toArray, List.set_cons_zero, List.set_cons_succ, i64_w, i32_w]
  rfl
 refine one_ (i := 6) (N := some 27) #[true, true, true, true, true, true, true, false, false, false, false, false] rfl rfl (one_of HT_.out (by kernel_rfl)) (by decide) (fun K hK => ?_)
 refine goes_ Try.func23 (by kernel_rfl) rfl #[.agg #[.int .i64 t411, .int .i64 t412, .slice Ao27 t413.length co27], .agg #[.int .i64 t416, .int .i64 t417], .int .i64 a2, .int .i64 a3] (by rfl) rfl rfl zq6 ?_
 with_reducible refine (spec_DistanceBetween.calls k t411 t412 _ _ t413 t416 t417 a2 a3 t418 t419 _ ?side1 ?side2 A14.out).mono ?_
 (case side1 => repeat (first | exact (Kd.R_reads' HO415.out).2.2 | (with_reducible refine Kd.C_alloc ?_ _) | (with_reducible refine Kd.C_drewN ?_ _) | (with_reducible refine Kd.C_drew ?_)))
 (case side2 => exact (Kd.R_reads' HO415.out).2.1)
 rintro e w28 ⟨rfl, hb⟩
 refine ⟨_, rfl, ?_⟩
 have n0_ := Aside0.mk (Kd.R_below zq11 hb)
 have n1_ := Aside0.mk (blk_below (g := gb408) (o := .cells #[.int .i64 a0_0, .int .i64 a0_1, .slice A0_2 l0_2.length c0_2] 24 (0, 0)) zq2 hb)
 have n2_ := Aside0.mk (blk_below (g := gb409) (o := .cells #[.int .i64 a1_0, .int .i64 a1_1] 26 (0, 0)) zq5 hb)
 have n3_ := Aside0.mk (below_step zq3 hb)
 clear HO415
 clear BK408
 clear BK409
 clear HB
 have HO415 := n0_
 have BK408 := n1_
 have BK409 := n2_
 have HB := n3_
 clear n0_ n1_ n2_ n3_
 (try clear hb)
 (try clear hb2)
 (try clear hk)
 (try clear hi)
 (try clear hna_)
 (try clear hnb_)
 refine hK.out _ _ ⟨(blk_cell BK408.out 0).trans rfl, (blk_cell BK408.out 1).trans rfl, (blk_cell BK408.out 2).trans rfl, (blk_cell BK409.out 0).trans rfl, (blk_cell BK409.out 1).trans rfl⟩ (fun hHeld => ?_)
 clear hK K
 refine norm_ (a' := ?_) ?_ ?_
 rotate_left
 ·show Act.put _ (some 27) _ = _
  simp only [Act.put, List.setIfInBounds_toArray, List.set_cons_zero, List.set_cons_succ, i64_w, i32_w]
  rfl
 refine pure_ (i := 7) (N := some 20) (v := ?_) (a' := ?_) #[true, true, true, true, true, true, true, true, false, false, false, false] rfl rfl (any_of HT_.out (by kernel_rfl)) (fun _ _ _ h => h) (Or.inl ⟨by rfl, ?_⟩) ?_ ?_
 rotate_left
 ·intro w'
  go_simp
  with_reducible rfl
 rotate_left
 ·simp only [Act.put, List.setIfInBounds_toArray, List.set_cons_zero, List.set_cons_succ, i64_w, i32_w]
  rfl
 refine pure_ (i := 8) (N := some 28) (v := ?_) (a' := ?_) #[true, true, true, true, true, true, true, true, true, false, false, false] rfl rfl (any_of HT_.out (by kernel_rfl)) (fun _ _ _ h => h) (Or.inl ⟨by rfl, ?_⟩) ?_ ?_
 rotate_left
 ·intro w'
  go_simp
  with_reducible rfl
 rotate_left
 ·simp only [Act.put, List.setIfInBounds_toArray, List.set_cons_zero, List.set_cons_succ, i64_w, i32_w]
  rfl
 refine pure_ (i := 9) (N := some 29) (v := ?_) (a' := ?_) #[true, true, true, true, true, true, true, true, true, true, false, false] rfl rfl (any_of HT_.out (by kernel_rfl)) (fun _ _ _ h => h) (Or.inl ⟨by rfl, ?_⟩) ?_ ?_
 rotate_left
 ·intro w'
  go_simp
  with_reducible rfl
 rotate_left
 ·simp only [Act.put, List.setIfInBounds_toArray, List.set_cons_zero, List.set_cons_succ, i64_w, i32_w]
  rfl
 refine pure_ (i := 10) (N := some 10) (v := ?_) (a' := ?_) #[true, true, true, true, true, true, true, true, true, true, true, false] rfl rfl (any_of HT_.out (by kernel_rfl)) (fun _ _ _ h => h) (Or.inl ⟨by rfl, ?_⟩) ?_ ?_
 rotate_left
 ·intro w'
  go_simp
  with_reducible rfl
 rotate_left
 ·simp only [Act.put, List.setIfInBounds_toArray, List.set_cons_zero, List.set_cons_succ, i64_w, i32_w]
  rfl
 refine pure_ (i := 11) (N := some 11) (v := ?_) (a' := ?_) #[true, true, true, true, true, true, true, true, true, true, true, true] rfl rfl (any_of HT_.out (by kernel_rfl)) (fun _ _ _ h => h) (Or.inl ⟨by rfl, ?_⟩) ?_ ?_
 rotate_left
 ·intro w'
  go_simp
  with_reducible rfl
 rotate_left
 ·simp only [Act.put, List.setIfInBounds_toArray, List.set_cons_zero, List.set_cons_succ, i64_w, i32_w]
  rfl
 refine done_ (done_of HT_.out (by kernel_rfl)) ?_
 have hcz29_0 : w28.cell? ⟨gb408, 0, none⟩ = some (.int .i64 a0_0) := (blk_cell BK408.out 0).trans rfl
 have hcz29_1 : w28.cell? ⟨gb408, 1, none⟩ = some (.int .i64 a0_1) := (blk_cell BK408.out 1).trans rfl
 have hcz29_2 : w28.cell? ⟨gb408, 2, none⟩ = some (.slice A0_2 l0_2.length c0_2) := (blk_cell BK408.out 2).trans rfl
 have hfz29_0 := blk_frozen BK408.out 0
 have hfz29_1 := blk_frozen BK408.out 1
 have hfz29_2 := blk_frozen BK408.out 2
 try go_wp2_with (first | ((with_reducible refine gate_callee (f := 17) rfl ?_); refine goesL_ (some 31) rfl rfl Try.func17 (by kernel_rfl) rfl #[.agg #[.int .i64 a0_0, .int .i64 a0_1, .slice A0_2 l0_2.length c0_2]] rfl zq6 ?_; (with_reducible refine (laws_toBoard.calls k a0_0 a0_1 _ _ l0_2 t420 t421 t422 _ ?side1 ?side2 A15.out).mono ?_); (case side1 => exact zq7); (case side2 => exact HC0_2.out); rintro e w30 ⟨v423, rfl, ho0, hb⟩; refine ⟨_, rfl, ?_⟩; have n0_ := Aside0.mk (Kd.R_elder' zq11 (Kd.R_base ho0) hb); have n1_ := Aside0.mk (Kd.R_lower (Kd.R_new' ho0 (Kd.R_lt zq11)) (below_size zq3)); have n2_ := Aside0.mk (blk_below (g := gb408) (o := .cells #[.int .i64 a0_0, .int .i64 a0_1, .slice A0_2 l0_2.length c0_2] 24 (0, 0)) zq2 hb); have n3_ := Aside0.mk (blk_below (g := gb409) (o := .cells #[.int .i64 a1_0, .int .i64 a1_1] 26 (0, 0)) zq5 hb); have n4_ := Aside0.mk (below_step zq3 hb); clear HO415; clear BK408; clear BK409; clear HB; have HO415 := n0_; have HO424 := n1_; have BK408 := n2_; have BK409 := n3_; have HB := n4_; clear n0_ n1_ n2_ n3_ n4_; (try clear hb); (try clear hb2); (try clear hk); (try clear hi); (try clear ho0); (try clear hna_); (try clear hnb_)) | ((with_reducible refine gate_dst (N := 12) rfl ?_); refine box_event ?hg (N := 12) ?hd (cs := #[.int .i64 0, .int .i64 0, .slice none 0 0]) (t := 30) ?hr ?_; (case hd => rfl); (case hg => rfl); (case hr => first | (go_simp; done) | (go_simp; rfl)); intro gb425 hg w31 hbox hb; have n0_ := Aside0.mk (Kd.R_below zq11 hb); have n1_ := Aside0.mk (Kd.R_below zq14 hb); have n2_ := Aside0.mk (blk_below (g := gb408) (o := .cells #[.int .i64 a0_0, .int .i64 a0_1, .slice A0_2 l0_2.length c0_2] 24 (0, 0)) zq2 hb); have n3_ := Aside0.mk (blk_below (g := gb409) (o := .cells #[.int .i64 a1_0, .int .i64 a1_1] 26 (0, 0)) zq5 hb); have n4_ := Aside0.mk (below_step zq3 hb); have n5_ := Aside0.mk (hbox); have n6_ := Aside0.mk ((by rw [hg]; exact (below_size zq3) : w.heap.size ≤ gb425)); have n7_ := Aside0.mk ((by rw [hg]; exact (below_size zq3) : w.heap.size ≤ gb425)); have n8_ := Aside0.mk ((zq18 : gb408 ≠ gb425)); have n9_ := Aside0.mk ((zq19 : gb425 ≠ gb408)); have n10_ := Aside0.mk ((by rw [hg]; exact Nat.ne_of_lt (blk_lt (g := gb409) (o := .cells #[.int .i64 a1_0, .int .i64 a1_1] 26 (0, 0)) zq5) : gb409 ≠ gb425)); have n11_ := Aside0.mk ((by rw [hg]; exact Nat.ne_of_gt (blk_lt (g := gb409) (o := .cells #[.int .i64 a1_0, .int .i64 a1_1] 26 (0, 0)) zq5) : gb425 ≠ gb409)); clear HO415; clear HO424; clear BK408; clear BK409; clear HB; have HO415 := n0_; have HO424 := n1_; have BK408 := n2_; have BK409 := n3_; have HB := n4_; have BK425 := n5_; have GW425 := n6_; have GE425 := n7_; have NB408_425 := n8_; have NB425_408 := n9_; have NB409_425 := n10_; have NB425_409 := n11_; clear n0_ n1_ n2_ n3_ n4_ n5_ n6_ n7_ n8_ n9_ n10_ n11_; clear hb hbox hg; have hnb32 := NB425_408.out; have hnc32 := NB408_425.out; have hnb33 := NB425_409.out; have hnc33 := NB409_425.out; have hcz34_0 : w31.cell? ⟨gb425, 0, none⟩ = some (.int .i64 0) := (blk_cell BK425.out 0).trans rfl; have hcz34_1 : w31.cell? ⟨gb425, 1, none⟩ = some (.int .i64 0) := (blk_cell BK425.out 1).trans rfl; have hcz34_2 : w31.cell? ⟨gb425, 2, none⟩ = some (.slice none 0 0) := (blk_cell BK425.out 2).trans rfl; have hfz34_0 := blk_frozen BK425.out 0; have hfz34_1 := blk_frozen BK425.out 1; have hfz34_2 := blk_frozen BK425.out 2; obtain ⟨Ao35, co35, eo35⟩ := Kd.R_slice HO424.out; subst eo35))
 have n0_ : Aside0 (Kd.R (Kd.int .i64) 3 (((w31.setCell ⟨gb425, 0, none⟩ (.int .i64 t420)).setCell ⟨gb425, 1, none⟩ (.int .i64 t421)).setCell ⟨gb425, 2, none⟩ (.slice Ao35 t422.length co35)) w.heap.size (fun k_ => some k_ ≠ (.slice Ao35 t422.length co35 : Value).ownBlock) (.slice Ao27 t413.length co27) t413) := ⟨by (with_reducible repeat (first | apply Kd.R_alloc | apply Kd.R_drewN | apply Kd.R_drew)); exact Kd.R_mono (Kd.R_far (p := ⟨gb425, 2, none⟩) (Kd.R_far (p := ⟨gb425, 1, none⟩) (Kd.R_far (p := ⟨gb425, 0, none⟩) (Kd.R_types HO415.out BK425.out (by decide)) (fun _ hk => hk.2) (.int .i64 t420)) (fun _ hk => hk.2) (.int .i64 t421)) (fun _ hk => hk.2) (.slice Ao35 t422.length co35)) (fun _ hk => hk.1.2)⟩
 have n1_ : Aside0 (Kd.R (Kd.int .i64) 3 (((w31.setCell ⟨gb425, 0, none⟩ (.int .i64 t420)).setCell ⟨gb425, 1, none⟩ (.int .i64 t421)).setCell ⟨gb425, 2, none⟩ (.slice Ao35 t422.length co35)) w.heap.size (fun k_ => some k_ ≠ (.slice Ao27 t413.length co27 : Value).ownBlock) (.slice Ao35 t422.length co35) t422) := ⟨by (with_reducible repeat (first | apply Kd.R_alloc | apply Kd.R_drewN | apply Kd.R_drew)); exact Kd.R_mono (Kd.R_far (p := ⟨gb425, 2, none⟩) (Kd.R_far (p := ⟨gb425, 1, none⟩) (Kd.R_far (p := ⟨gb425, 0, none⟩) (Kd.R_types HO424.out BK425.out (by decide)) (fun _ hk => hk.2) (.int .i64 t420)) (fun _ hk => hk.2) (.int .i64 t421)) (fun _ hk => hk.2) (.slice Ao35 t422.length co35)) (fun _ hk => hk.1.2)⟩
 have n2_ : Aside0 ((((w31.setCell ⟨gb425, 0, none⟩ (.int .i64 t420)).setCell ⟨gb425, 1, none⟩ (.int .i64 t421)).setCell ⟨gb425, 2, none⟩ (.slice Ao35 t422.length co35)).heap[gb408]? = some (.cells #[.int .i64 a0_0, .int .i64 a0_1, .slice A0_2 l0_2.length c0_2] 24 (0, 0))) := ⟨by (with_reducible repeat (first | refine blk_drewN ?_ _ | refine blk_drew ?_ | refine blk_alloc ?_ _)); refine blk_far ?_ NB408_425.out _; (with_reducible repeat (first | refine blk_drewN ?_ _ | refine blk_drew ?_ | refine blk_alloc ?_ _)); refine blk_far ?_ NB408_425.out _; (with_reducible repeat (first | refine blk_drewN ?_ _ | refine blk_drew ?_ | refine blk_alloc ?_ _)); refine blk_far ?_ NB408_425.out _; (with_reducible repeat (first | refine blk_drewN ?_ _ | refine blk_drew ?_ | refine blk_alloc ?_ _)); exact BK408.out⟩
 have n3_ : Aside0 ((((w31.setCell ⟨gb425, 0, none⟩ (.int .i64 t420)).setCell ⟨gb425, 1, none⟩ (.int .i64 t421)).setCell ⟨gb425, 2, none⟩ (.slice Ao35 t422.length co35)).heap[gb409]? = some (.cells #[.int .i64 a1_0, .int .i64 a1_1] 26 (0, 0))) := ⟨by (with_reducible repeat (first | refine blk_drewN ?_ _ | refine blk_drew ?_ | refine blk_alloc ?_ _)); refine blk_far ?_ NB409_425.out _; (with_reducible repeat (first | refine blk_drewN ?_ _ | refine blk_drew ?_ | refine blk_alloc ?_ _)); refine blk_far ?_ NB409_425.out _; (with_reducible repeat (first | refine blk_drewN ?_ _ | refine blk_drew ?_ | refine blk_alloc ?_ _)); refine blk_far ?_ NB409_425.out _; (with_reducible repeat (first | refine blk_drewN ?_ _ | refine blk_drew ?_ | refine blk_alloc ?_ _)); exact BK409.out⟩
 have n4_ : Aside0 ((((w31.setCell ⟨gb425, 0, none⟩ (.int .i64 t420)).setCell ⟨gb425, 1, none⟩ (.int .i64 t421)).setCell ⟨gb425, 2, none⟩ (.slice Ao35 t422.length co35)).heap[gb425]? = some (.cells #[.int .i64 t420, .int .i64 t421, .slice Ao35 t422.length co35] 30 (0, 0))) := ⟨by (with_reducible repeat (first | refine blk_drewN ?_ _ | refine blk_drew ?_ | refine blk_alloc ?_ _)); refine blk_put (cs := #[.int .i64 t420, .int .i64 t421, .slice none 0 0]) ?_ 2 _ rfl; (with_reducible repeat (first | refine blk_drewN ?_ _ | refine blk_drew ?_ | refine blk_alloc ?_ _)); refine blk_put (cs := #[.int .i64 t420, .int .i64 0, .slice none 0 0]) ?_ 1 _ rfl; (with_reducible repeat (first | refine blk_drewN ?_ _ | refine blk_drew ?_ | refine blk_alloc ?_ _)); refine blk_put (cs := #[.int .i64 0, .int .i64 0, .slice none 0 0]) ?_ 0 _ rfl; (with_reducible repeat (first | refine blk_drewN ?_ _ | refine blk_drew ?_ | refine blk_alloc ?_ _)); exact BK425.out⟩
 have n5_ : Aside0 (Below w.heap.size w (((w31.setCell ⟨gb425, 0, none⟩ (.int .i64 t420)).setCell ⟨gb425, 1, none⟩ (.int .i64 t421)).setCell ⟨gb425, 2, none⟩ (.slice Ao35 t422.length co35))) := ⟨zq1⟩
 (try clear HO415)
 (try clear HO424)
 (try clear BK408)
 (try clear BK409)
 (try clear BK425)
 (try clear HB)
 generalize (((w31.setCell ⟨gb425, 0, none⟩ (.int .i64 t420)).setCell ⟨gb425, 1, none⟩ (.int .i64 t421)).setCell ⟨gb425, 2, none⟩ (.slice Ao35 t422.length co35)) = w36 at n0_ n1_ n2_ n3_ n4_ n5_ ⊢
 have HO415 := n0_
 have HO424 := n1_
 have BK408 := n2_
 have BK409 := n3_
 have BK425 := n4_
 have HB := n5_
 clear n0_ n1_ n2_ n3_ n4_ n5_
 have n0_ := Aside0.mk (Kd.R_drew HO415.out)
 have n1_ := Aside0.mk (Kd.R_drew HO424.out)
 have n2_ := Aside0.mk (blk_drew BK408.out)
 have n3_ := Aside0.mk (blk_drew BK409.out)
 have n4_ := Aside0.mk (blk_drew BK425.out)
 have n5_ := Aside0.mk (below_drew1 HB.out)
 clear HO415
 clear HO424
 clear BK408
 clear BK409
 clear BK425
 clear HB
 have HO415 := n0_
 have HO424 := n1_
 have BK408 := n2_
 have BK409 := n3_
 have BK425 := n4_
 have HB := n5_
 clear n0_ n1_ n2_ n3_ n4_ n5_
 refine start_ (n := 11) (S := fun w' => w'.cell? ⟨gb425, 0, none⟩ = some (.int .i64 t420) ∧ w'.cell? ⟨gb425, 1, none⟩ = some (.int .i64 t421) ∧ w'.cell? ⟨gb425, 2, none⟩ = some (.slice Ao35 t422.length co35) ∧ w'.cell? ⟨gb409, 0, none⟩ = some (.int .i64 a1_0) ∧ w'.cell? ⟨gb409, 1, none⟩ = some (.int .i64 a1_1)) (ds := []) #[false, false, false, false, false, false, false, false, false, false, false] (by kernel_rfl) rfl rfl ⟨(blk_cell BK425.out 0).trans rfl, (blk_cell BK425.out 1).trans rfl, (blk_cell BK425.out 2).trans rfl, (blk_cell BK409.out 0).trans rfl, (blk_cell BK409.out 1).trans rfl⟩ (fun hHeld => ?_); refine with_tabW laws_FnExactDistanceBetween.tab7 laws_FnExactDistanceBetween.bits7 (fun HT_ HW_ => ?_)
 generalize w36.drew = w37 at HO415 HO424 BK408 BK409 BK425 HB hHeld ⊢
 refine pure_ (i := 3) (N := some 36) (v := ?_) (a' := ?_) #[false, false, false, true, false, false, false, false, false, false, false] rfl rfl (any_of HT_.out (by kernel_rfl)) (fun _ _ _ h => h) (Or.inl ⟨by rfl, ?_⟩) ?_ ?_
 rotate_left
 ·intro w'
  go_simp
  with_reducible rfl
 rotate_left
 ·simp only [Act.put, List.setIfInBounds_toArray, List.set_cons_zero, List.set_cons_succ, i64_w, i32_w]
  rfl
 refine pure_ (i := 4) (N := some 37) (v := ?_) (a' := ?_) #[false, false, false, true, true, false, false, false, false, false, false] rfl rfl (any_of HT_.out (by kernel_rfl)) (fun _ _ _ h => h) (Or.inl ⟨by rfl, ?_⟩) ?_ ?_
 rotate_left
 ·intro w'
  go_simp
  with_reducible rfl
 rotate_left
 ·simp only [Act.put, List.setIfInBounds_toArray, List.set_cons_zero, List.set_cons_succ, i64_w, i32_w]
  rfl
 refine take_ (i := 0) (N := some 33) (v := ?_) (a' := ?_) #[true, false, false, true, true, false, false, false, false, false, false] rfl rfl (take_ofW HT_.out HW_.out (by kernel_rfl)) (fun _ _ _ h => h) (Or.inl ⟨by rfl, ?_⟩) hHeld ?_ ?_
 rotate_left
 ·rintro w' ⟨s0, s1, s2, s3, s4⟩
  go_simp
  with_reducible rfl
 rotate_left
 ·simp only [Act.put, List.setIfInBounds_toArray, List.set_cons_zero, List.set_cons_succ, i64_w, i32_w]
  rfl
 refine take_ (i := 1) (N := some 34) (v := ?_) (a' := ?_) #[true, true, false, true, true, false, false, false, false, false, false] rfl rfl (take_ofW HT_.out HW_.out (by kernel_rfl)) (fun _ _ _ h => h) (Or.inl ⟨by rfl, ?_⟩) hHeld ?_ ?_
 rotate_left
 ·rintro w' ⟨s0, s1, s2, s3, s4⟩
  go_simp
  with_reducible rfl
 rotate_left
 ·simp only [Act.put, List.setIfInBounds_toArray, List.set_cons_zero, List.set_cons_succ, i64_w, i32_w]
  rfl
 refine one_ (i := 2) (N := some 35) #[true, true, true, true, true, false, false, false, false, false, false] rfl rfl (one_of HT_.out (by kernel_rfl)) (by decide) (fun K hK => ?_)
 refine goes_ Try.func18 (by kernel_rfl) rfl #[.agg #[.int .i64 a1_0, .int .i64 a1_1]] (by rfl) rfl rfl zq6 ?_
 with_reducible refine (laws_toLeaper.calls a1_0 a1_1 t426 t427 _ A16.out).mono ?_
 rintro e w38 ⟨rfl, hb⟩
 refine ⟨_, rfl, ?_⟩
 have n0_ := Aside0.mk (Kd.R_below zq11 hb)
 have n1_ := Aside0.mk (Kd.R_below zq14 hb)
 have n2_ := Aside0.mk (blk_below (g := gb408) (o := .cells #[.int .i64 a0_0, .int .i64 a0_1, .slice A0_2 l0_2.length c0_2] 24 (0, 0)) zq2 hb)
 have n3_ := Aside0.mk (blk_below (g := gb409) (o := .cells #[.int .i64 a1_0, .int .i64 a1_1] 26 (0, 0)) zq5 hb)
 have n4_ := Aside0.mk (blk_below (g := gb425) (o := .cells #[.int .i64 t420, .int .i64 t421, .slice Ao35 t422.length co35] 30 (0, 0)) zq9 hb)
 have n5_ := Aside0.mk (below_step zq1 hb)
 clear HO415
 clear HO424
 clear BK408
 clear BK409
 clear BK425
 clear HB
 have HO415 := n0_
 have HO424 := n1_
 have BK408 := n2_
 have BK409 := n3_
 have BK425 := n4_
 have HB := n5_
 clear n0_ n1_ n2_ n3_ n4_ n5_
 (try clear hb)
 (try clear hb2)
 (try clear hk)
 (try clear hi)
 (try clear hna_)
 (try clear hnb_)
 refine hK.out _ _ ⟨(blk_cell BK425.out 0).trans rfl, (blk_cell BK425.out 1).trans rfl, (blk_cell BK425.out 2).trans rfl, (blk_cell BK409.out 0).trans rfl, (blk_cell BK409.out 1).trans rfl⟩ (fun hHeld => ?_)
 clear hK K
 refine norm_ (a' := ?_) ?_ ?_
 rotate_left
 ·show Act.put _ (some 35) _ = _
  simp only [Act.put, List.setIfInBounds_toArray, List.set_cons_zero, List.set_cons_succ, i64_w, i32_w]
  rfl
 refine one_ (i := 5) (N := some 38) #[true, true, true, true, true, true, false, false, false, false, false] rfl rfl (one_of HT_.out (by kernel_rfl)) (by decide) (fun K hK => ?_)
 refine goes_ Try.func24 (by kernel_rfl) rfl #[.agg #[.int .i64 t420, .int .i64 t421, .slice Ao35 t422.length co35], .agg #[.int .i64 t426, .int .i64 t427], .int .i64 a2, .int .i64 a3] (by rfl) rfl rfl zq6 ?_
 with_reducible refine (impl_DistanceBetween.calls k t420 t421 _ _ t422 t426 t427 a2 a3 t428 t429 _ ?side1 ?side2 A17.out).mono ?_
 (case side1 => repeat (first | exact (Kd.R_reads' HO424.out).2.2 | (with_reducible refine Kd.C_alloc ?_ _) | (with_reducible refine Kd.C_drewN ?_ _) | (with_reducible refine Kd.C_drew ?_)))
 (case side2 => exact (Kd.R_reads' HO424.out).2.1)
 rintro e w39 ⟨rfl, hb⟩
 refine ⟨_, rfl, ?_⟩
 have n0_ := Aside0.mk (Kd.R_below zq11 hb)
 have n1_ := Aside0.mk (Kd.R_below zq14 hb)
 have n2_ := Aside0.mk (blk_below (g := gb408) (o := .cells #[.int .i64 a0_0, .int .i64 a0_1, .slice A0_2 l0_2.length c0_2] 24 (0, 0)) zq2 hb)
 have n3_ := Aside0.mk (blk_below (g := gb409) (o := .cells #[.int .i64 a1_0, .int .i64 a1_1] 26 (0, 0)) zq5 hb)
 have n4_ := Aside0.mk (blk_below (g := gb425) (o := .cells #[.int .i64 t420, .int .i64 t421, .slice Ao35 t422.length co35] 30 (0, 0)) zq9 hb)
 have n5_ := Aside0.mk (below_step zq1 hb)
 clear HO415
 clear HO424
 clear BK408
 clear BK409
 clear BK425
 clear HB
 have HO415 := n0_
 have HO424 := n1_
 have BK408 := n2_
 have BK409 := n3_
 have BK425 := n4_
 have HB := n5_
 clear n0_ n1_ n2_ n3_ n4_ n5_
 (try clear hb)
 (try clear hb2)
 (try clear hk)
 (try clear hi)
 (try clear hna_)
 (try clear hnb_)
 refine hK.out _ _ ⟨(blk_cell BK425.out 0).trans rfl, (blk_cell BK425.out 1).trans rfl, (blk_cell BK425.out 2).trans rfl, (blk_cell BK409.out 0).trans rfl, (blk_cell BK409.out 1).trans rfl⟩ (fun hHeld => ?_)
 clear hK K
 refine norm_ (a' := ?_) ?_ ?_
 rotate_left
 ·show Act.put _ (some 38) _ = _
  simp only [Act.put, List.setIfInBounds_toArray, List.set_cons_zero, List.set_cons_succ, i64_w, i32_w]
  rfl
 refine pure_ (i := 6) (N := some 32) (v := ?_) (a' := ?_) #[true, true, true, true, true, true, true, false, false, false, false] rfl rfl (any_of HT_.out (by kernel_rfl)) (fun _ _ _ h => h) (Or.inl ⟨by rfl, ?_⟩) ?_ ?_
 rotate_left
 ·intro w'
  go_simp
  with_reducible rfl
 rotate_left
 ·simp only [Act.put, List.setIfInBounds_toArray, List.set_cons_zero, List.set_cons_succ, i64_w, i32_w]
  rfl
 refine pure_ (i := 7) (N := some 39) (v := ?_) (a' := ?_) #[true, true, true, true, true, true, true, true, false, false, false] rfl rfl (any_of HT_.out (by kernel_rfl)) (fun _ _ _ h => h) (Or.inl ⟨by rfl, ?_⟩) ?_ ?_
 rotate_left
 ·intro w'
  go_simp
  with_reducible rfl
 rotate_left
 ·simp only [Act.put, List.setIfInBounds_toArray, List.set_cons_zero, List.set_cons_succ, i64_w, i32_w]
  rfl
 refine pure_ (i := 8) (N := some 40) (v := ?_) (a' := ?_) #[true, true, true, true, true, true, true, true, true, false, false] rfl rfl (any_of HT_.out (by kernel_rfl)) (fun _ _ _ h => h) (Or.inl ⟨by rfl, ?_⟩) ?_ ?_
 rotate_left
 ·intro w'
  go_simp
  with_reducible rfl
 rotate_left
 ·simp only [Act.put, List.setIfInBounds_toArray, List.set_cons_zero, List.set_cons_succ, i64_w, i32_w]
  rfl
 refine pure_ (i := 9) (N := some 13) (v := ?_) (a' := ?_) #[true, true, true, true, true, true, true, true, true, true, false] rfl rfl (any_of HT_.out (by kernel_rfl)) (fun _ _ _ h => h) (Or.inl ⟨by rfl, ?_⟩) ?_ ?_
 rotate_left
 ·intro w'
  go_simp
  with_reducible rfl
 rotate_left
 ·simp only [Act.put, List.setIfInBounds_toArray, List.set_cons_zero, List.set_cons_succ, i64_w, i32_w]
  rfl
 refine pure_ (i := 10) (N := some 14) (v := ?_) (a' := ?_) #[true, true, true, true, true, true, true, true, true, true, true] rfl rfl (any_of HT_.out (by kernel_rfl)) (fun _ _ _ h => h) (Or.inl ⟨by rfl, ?_⟩) ?_ ?_
 rotate_left
 ·intro w'
  go_simp
  with_reducible rfl
 rotate_left
 ·simp only [Act.put, List.setIfInBounds_toArray, List.set_cons_zero, List.set_cons_succ, i64_w, i32_w]
  rfl
 refine done_ (done_of HT_.out (by kernel_rfl)) ?_
 go_upto_region 8 with (fail)
 go_cut [48] (fun v48 wc => ∃ (kq : Nat) (x48_17 : Bool), v48 = .bool x48_17 ∧ Aside0 (laws_FnExactDistanceBetween.j0 kq x48_17 a0_0 a0_1 l0_2 t420 t421 t422 = some r) ∧ Aside0 (kq ≤ k) ∧ Aside0 (Kd.R (Kd.int .i64) 3 wc w.heap.size (fun _ => True) (.slice Ao35 t422.length co35) t422) ∧ Aside0 (wc.heap[gb408]? = some (.cells #[.int .i64 a0_0, .int .i64 a0_1, (.slice A0_2 l0_2.length c0_2)] 24 (0, 0))) ∧ Aside0 (wc.heap[gb409]? = some (.cells #[.int .i64 a1_0, .int .i64 a1_1] 26 (0, 0))) ∧ Aside0 (wc.heap[gb425]? = some (.cells #[.int .i64 t420, .int .i64 t421, (.slice Ao35 t422.length co35)] 30 (0, 0))) ∧ Aside0 (Below w.heap.size w wc))
 case first =>
  have H := HC18.out
  clear HC18
  by_cases c40 : t428 = t418
  rotate_left
  ·rw [if_neg c40] at H
   have c40b0 : (t428 == t418) = false := beq_eq_false_iff_ne.mpr c40
   have c40b1 : (t428 != t418) = true := bne_iff_ne.mpr c40
   (first | rw [c40b0] | (simp only [i64_w, i32_w]; rw [c40b0]) | skip)
   have H' := Aside0.mk H
   clear H
   go_wp2
   go_meet
   case rel => exact ⟨_, (true), (by first | rfl | (simp; done) | (simp [*]; done)), H', ⟨by first | omega | exact Nat.le_refl _⟩, ⟨zq17⟩, ⟨zq2⟩, ⟨zq5⟩, ⟨zq9⟩, ⟨zq1⟩⟩
  rw [if_pos c40] at H
  have c40b0 : (t428 == t418) = true := beq_iff_eq.mpr c40
  have c40b1 : (t428 != t418) = false := bne_eq_false_iff_eq.mpr c40
  clear c40
  (first | rw [c40b0] | (simp only [i64_w, i32_w]; rw [c40b0]) | skip)
  have H' := Aside0.mk H
  clear H
  go_wp2
  go_meet
  case rel => exact ⟨_, ((t429 != t419)), (by first | rfl | (simp; done) | (simp [*]; done)), H', ⟨by first | omega | exact Nat.le_refl _⟩, ⟨zq17⟩, ⟨zq2⟩, ⟨zq5⟩, ⟨zq9⟩, ⟨zq1⟩⟩
 case rest =>
  clear HC18
  try clear c1; try clear c2; try clear p2; try clear c3; try clear c4; try clear c6; try clear c6b0; try clear c9; try clear c15; try clear c17; try clear c18; try clear c21; try clear c23; try clear c24; try clear c32; try clear c33; try clear c40; try clear c40b0; try clear c40b1; try clear hcz10_0; try clear hcz10_1; try clear hcz10_2; try clear hcz22_0; try clear hcz22_1; try clear hcz22_2; try clear hcz29_0; try clear hcz29_1; try clear hcz29_2; try clear hcz34_0; try clear hcz34_1; try clear hcz34_2; try clear hfz10_0; try clear hfz10_1; try clear hfz10_2; try clear hfz22_0; try clear hfz22_1
  try clear hfz22_2; try clear hfz29_0; try clear hfz29_1; try clear hfz29_2; try clear hfz34_0; try clear hfz34_1; try clear hfz34_2
  obtain ⟨kq, x48_17, rfl, HA, HJ17, HO_426002, BK408, BK409, BK425, HB⟩ := hcut
  cases kq with
  | zero => exact absurd HA.out (by simp [laws_FnExactDistanceBetween.j0])
  | succ kj17 =>
   have H := HA.out
   clear HA
   simp only [laws_FnExactDistanceBetween.j0] at H
   by_cases c41 : x48_17 = true
   ·subst c41
    have H1 : (some false) = some r := by rw [if_pos rfl] at H; exact H
    clear H
    have H := H1
    clear H1
    obtain rfl := Option.some.inj H
    go_wp2
    go_ret
    exact ⟨zq13, zq1⟩
   replace c41 := Bool.eq_false_iff.mpr c41
   subst c41
   have H1 : ((laws_toBoard.f kj17 a0_0 a0_1 l0_2).bind fun bt430 => ((laws_eqBoard.f kj17 t420 t421 t422 bt430.1 bt430.2.1 bt430.2.2).bind fun t435 => (if t435 = true then (some true) else (some false)))) = some r := by rw [if_neg (show ¬ (false = true) by decide)] at H; exact H
   clear H
   have H := H1
   clear H1
   replace H := Option.bind_eq_some_iff.mp H
   obtain ⟨⟨t430, t431, t432⟩, A420, H⟩ := H
   replace H : ((laws_eqBoard.f kj17 t420 t421 t422 t430 t431 t432).bind fun t435 => (if t435 = true then (some true) else (some false))) = some r := H
   have A42 := Aside0.mk A420
   clear A420
   replace H := Option.bind_eq_some_iff.mp H
   obtain ⟨t435, A430, H⟩ := H
   replace H : (if t435 = true then (some true) else (some false)) = some r := H
   have A43 := Aside0.mk A430
   clear A430
   by_cases c44 : t435 = true
   ·subst c44
    have H1 : (some true) = some r := by rw [if_pos rfl] at H; exact H
    clear H
    have H := H1
    clear H1
    obtain rfl := Option.some.inj H
    try go_wp2
    have n0_ := Aside0.mk (Kd.R_drew HO_426002.out)
    have n1_ := Aside0.mk (blk_drew BK408.out)
    have n2_ := Aside0.mk (blk_drew BK409.out)
    have n3_ := Aside0.mk (blk_drew BK425.out)
    have n4_ := Aside0.mk (below_drew1 HB.out)
    clear HO_426002
    clear BK408
    clear BK409
    clear BK425
    clear HB
    have HO_426002 := n0_
    have BK408 := n1_
    have BK409 := n2_
    have BK425 := n3_
    have HB := n4_
    clear n0_ n1_ n2_ n3_ n4_
    refine start_ (n := 5) (S := fun w' => w'.cell? ⟨gb425, 0, none⟩ = some (.int .i64 t420) ∧ w'.cell? ⟨gb425, 1, none⟩ = some (.int .i64 t421) ∧ w'.cell? ⟨gb425, 2, none⟩ = some (.slice Ao35 t422.length co35) ∧ w'.cell? ⟨gb408, 0, none⟩ = some (.int .i64 a0_0) ∧ w'.cell? ⟨gb408, 1, none⟩ = some (.int .i64 a0_1) ∧ w'.cell? ⟨gb408, 2, none⟩ = some (.slice A0_2 l0_2.length c0_2)) (ds := []) #[false, false, false, false, false] (by kernel_rfl) rfl rfl ⟨(blk_cell BK425.out 0).trans rfl, (blk_cell BK425.out 1).trans rfl, (blk_cell BK425.out 2).trans rfl, (blk_cell BK408.out 0).trans rfl, (blk_cell BK408.out 1).trans rfl, (blk_cell BK408.out 2).trans rfl⟩ (fun hHeld => ?_)
    generalize wc.drew = w45 at HO_426002 BK408 BK409 BK425 HB hHeld ⊢
    refine take_ (i := 0) (N := some 49) (v := ?_) (a' := ?_) #[true, false, false, false, false] rfl rfl (by kernel_rfl) (fun _ _ _ h => h) (Or.inl ⟨by rfl, ?_⟩) hHeld ?_ ?_
    rotate_left
    ·rintro w' ⟨s0, s1, s2, s3, s4, s5⟩
     go_simp
     with_reducible rfl
    rotate_left
    ·simp only [Act.put, List.setIfInBounds_toArray, List.set_cons_zero, List.set_cons_succ, i64_w, i32_w]
     rfl
    refine take_ (i := 1) (N := some 50) (v := ?_) (a' := ?_) #[true, true, false, false, false] rfl rfl (by kernel_rfl) (fun _ _ _ h => h) (Or.inl ⟨by rfl, ?_⟩) hHeld ?_ ?_
    rotate_left
    ·rintro w' ⟨s0, s1, s2, s3, s4, s5⟩
     go_simp
     with_reducible rfl
    rotate_left
    ·simp only [Act.put, List.setIfInBounds_toArray, List.set_cons_zero, List.set_cons_succ, i64_w, i32_w]
     rfl
    refine one_ (i := 2) (N := some 51) #[true, true, true, false, false] rfl rfl (by kernel_rfl) (by decide) (fun K hK => ?_)
    refine goes_ Try.func17 (by kernel_rfl) rfl #[.agg #[.int .i64 a0_0, .int .i64 a0_1, .slice A0_2 l0_2.length c0_2]] (by rfl) rfl rfl zq6 ?_
    with_reducible refine (laws_toBoard.calls kj17 a0_0 a0_1 _ _ l0_2 t430 t431 t432 _ ?side1 ?side2 A42.out).mono ?_
    (case side1 => exact zq7)
    (case side2 => exact HC0_2.out)
    rintro e w46 ⟨v433, rfl, ho0, hb⟩
    refine ⟨_, rfl, ?_⟩
    have n0_ := Aside0.mk (Kd.R_elder' zq12 (Kd.R_base ho0) hb)
    have n1_ := Aside0.mk (Kd.R_lower (Kd.R_new' ho0 (Kd.R_lt zq12)) (below_size zq1))
    have n2_ := Aside0.mk (blk_below (g := gb408) (o := .cells #[.int .i64 a0_0, .int .i64 a0_1, .slice A0_2 l0_2.length c0_2] 24 (0, 0)) zq2 hb)
    have n3_ := Aside0.mk (blk_below (g := gb409) (o := .cells #[.int .i64 a1_0, .int .i64 a1_1] 26 (0, 0)) zq5 hb)
    have n4_ := Aside0.mk (blk_below (g := gb425) (o := .cells #[.int .i64 t420, .int .i64 t421, .slice Ao35 t422.length co35] 30 (0, 0)) zq9 hb)
    have n5_ := Aside0.mk (below_step zq1 hb)
    clear HO_426002
    clear BK408
    clear BK409
    clear BK425
    clear HB
    have HO_426002 := n0_
    have HO434 := n1_
    have BK408 := n2_
    have BK409 := n3_
    have BK425 := n4_
    have HB := n5_
    clear n0_ n1_ n2_ n3_ n4_ n5_
    (try clear hb)
    (try clear hb2)
    (try clear hk)
    (try clear hi)
    (try clear ho0)
    (try clear hna_)
    (try clear hnb_)
    obtain ⟨Ao47, co47, eo47⟩ := Kd.R_slice HO434.out
    (first | subst eo47 | (injection eo47 with f1_ f2_ f3_; have f4_ := f1_.symm; have f5_ := f3_.symm; clear f1_ f2_ f3_; subst f4_; subst f5_))
    refine hK.out _ _ ⟨(blk_cell BK425.out 0).trans rfl, (blk_cell BK425.out 1).trans rfl, (blk_cell BK425.out 2).trans rfl, (blk_cell BK408.out 0).trans rfl, (blk_cell BK408.out 1).trans rfl, (blk_cell BK408.out 2).trans rfl⟩ (fun hHeld => ?_)
    clear hK K
    refine norm_ (a' := ?_) ?_ ?_
    rotate_left
    ·show Act.put _ (some 51) _ = _
     simp only [Act.put, List.setIfInBounds_toArray, List.set_cons_zero, List.set_cons_succ, i64_w, i32_w]
     rfl
    refine one_ (i := 3) (N := some 52) #[true, true, true, true, false] rfl rfl (by kernel_rfl) (by decide) (fun K hK => ?_)
    refine goes_ Try.func21 (by kernel_rfl) rfl #[.agg #[.int .i64 t420, .int .i64 t421, .slice Ao35 t422.length co35], .agg #[.int .i64 t430, .int .i64 t431, .slice Ao47 t432.length co47]] (by rfl) rfl rfl zq6 ?_
    with_reducible refine (laws_eqBoard.calls kj17 t420 t421 _ _ t422 t430 t431 _ _ t432 true _ ?side1 ?side2 ?side3 ?side4 A43.out).mono ?_
    (case side1 => exact zq15)
    (case side2 => exact (Kd.R_reads' HO_426002.out).2.1)
    (case side3 => exact zq16)
    (case side4 => exact (Kd.R_reads' HO434.out).2.1)
    rintro e w48 ⟨rfl, hb⟩
    refine ⟨_, rfl, ?_⟩
    have n0_ := Aside0.mk (Kd.R_below zq12 hb)
    have n1_ := Aside0.mk (Kd.R_below (by (with_reducible repeat (first | apply Kd.R_alloc | apply Kd.R_drewN | apply Kd.R_drew)); exact HO434.out) hb)
    have n2_ := Aside0.mk (blk_below (g := gb408) (o := .cells #[.int .i64 a0_0, .int .i64 a0_1, .slice A0_2 l0_2.length c0_2] 24 (0, 0)) zq2 hb)
    have n3_ := Aside0.mk (blk_below (g := gb409) (o := .cells #[.int .i64 a1_0, .int .i64 a1_1] 26 (0, 0)) zq5 hb)
    have n4_ := Aside0.mk (blk_below (g := gb425) (o := .cells #[.int .i64 t420, .int .i64 t421, .slice Ao35 t422.length co35] 30 (0, 0)) zq9 hb)
    have n5_ := Aside0.mk (below_step zq1 hb)
    clear HO_426002
    clear HO434
    clear BK408
    clear BK409
    clear BK425
    clear HB
    have HO_426002 := n0_
    have HO434 := n1_
    have BK408 := n2_
    have BK409 := n3_
    have BK425 := n4_
    have HB := n5_
    clear n0_ n1_ n2_ n3_ n4_ n5_
    (try clear hb)
    (try clear hb2)
    (try clear hk)
    (try clear hi)
    (try clear hna_)
    (try clear hnb_)
    refine hK.out _ _ ⟨(blk_cell BK425.out 0).trans rfl, (blk_cell BK425.out 1).trans rfl, (blk_cell BK425.out 2).trans rfl, (blk_cell BK408.out 0).trans rfl, (blk_cell BK408.out 1).trans rfl, (blk_cell BK408.out 2).trans rfl⟩ (fun hHeld => ?_)
    clear hK K
    refine norm_ (a' := ?_) ?_ ?_
    rotate_left
    ·show Act.put _ (some 52) _ = _
     simp only [Act.put, List.setIfInBounds_toArray, List.set_cons_zero, List.set_cons_succ, i64_w, i32_w]
     rfl
    refine pure_ (i := 4) (N := some 53) (v := ?_) (a' := ?_) #[true, true, true, true, true] rfl rfl (by kernel_rfl) (fun _ _ _ h => h) (Or.inl ⟨by rfl, ?_⟩) ?_ ?_
    rotate_left
    ·intro w'
     go_simp
     with_reducible rfl
    rotate_left
    ·simp only [Act.put, List.setIfInBounds_toArray, List.set_cons_zero, List.set_cons_succ, i64_w, i32_w]
     rfl
    refine done_ (by kernel_rfl) ?_
    try go_wp2
    go_ret
    exact ⟨zq13, zq1⟩
   replace c44 := Bool.eq_false_iff.mpr c44
   subst c44
   have H1 : (some false) = some r := by rw [if_neg (show ¬ (false = true) by decide)] at H; exact H
   clear H
   have H := H1
   clear H1
   obtain rfl := Option.some.inj H
   try go_wp2
   have n0_ := Aside0.mk (Kd.R_drew HO_426002.out)
   have n1_ := Aside0.mk (blk_drew BK408.out)
   have n2_ := Aside0.mk (blk_drew BK409.out)
   have n3_ := Aside0.mk (blk_drew BK425.out)
   have n4_ := Aside0.mk (below_drew1 HB.out)
   clear HO_426002
   clear BK408
   clear BK409
   clear BK425
   clear HB
   have HO_426002 := n0_
   have BK408 := n1_
   have BK409 := n2_
   have BK425 := n3_
   have HB := n4_
   clear n0_ n1_ n2_ n3_ n4_
   refine start_ (n := 5) (S := fun w' => w'.cell? ⟨gb425, 0, none⟩ = some (.int .i64 t420) ∧ w'.cell? ⟨gb425, 1, none⟩ = some (.int .i64 t421) ∧ w'.cell? ⟨gb425, 2, none⟩ = some (.slice Ao35 t422.length co35) ∧ w'.cell? ⟨gb408, 0, none⟩ = some (.int .i64 a0_0) ∧ w'.cell? ⟨gb408, 1, none⟩ = some (.int .i64 a0_1) ∧ w'.cell? ⟨gb408, 2, none⟩ = some (.slice A0_2 l0_2.length c0_2)) (ds := []) #[false, false, false, false, false] (by kernel_rfl) rfl rfl ⟨(blk_cell BK425.out 0).trans rfl, (blk_cell BK425.out 1).trans rfl, (blk_cell BK425.out 2).trans rfl, (blk_cell BK408.out 0).trans rfl, (blk_cell BK408.out 1).trans rfl, (blk_cell BK408.out 2).trans rfl⟩ (fun hHeld => ?_)
   generalize wc.drew = w49 at HO_426002 BK408 BK409 BK425 HB hHeld ⊢
   refine take_ (i := 0) (N := some 49) (v := ?_) (a' := ?_) #[true, false, false, false, false] rfl rfl (by kernel_rfl) (fun _ _ _ h => h) (Or.inl ⟨by rfl, ?_⟩) hHeld ?_ ?_
   rotate_left
   ·rintro w' ⟨s0, s1, s2, s3, s4, s5⟩
    go_simp
    with_reducible rfl
   rotate_left
   ·simp only [Act.put, List.setIfInBounds_toArray, List.set_cons_zero, List.set_cons_succ, i64_w, i32_w]
    rfl
   refine take_ (i := 1) (N := some 50) (v := ?_) (a' := ?_) #[true, true, false, false, false] rfl rfl (by kernel_rfl) (fun _ _ _ h => h) (Or.inl ⟨by rfl, ?_⟩) hHeld ?_ ?_
   rotate_left
   ·rintro w' ⟨s0, s1, s2, s3, s4, s5⟩
    go_simp
    with_reducible rfl
   rotate_left
   ·simp only [Act.put, List.setIfInBounds_toArray, List.set_cons_zero, List.set_cons_succ, i64_w, i32_w]
    rfl
   refine one_ (i := 2) (N := some 51) #[true, true, true, false, false] rfl rfl (by kernel_rfl) (by decide) (fun K hK => ?_)
   refine goes_ Try.func17 (by kernel_rfl) rfl #[.agg #[.int .i64 a0_0, .int .i64 a0_1, .slice A0_2 l0_2.length c0_2]] (by rfl) rfl rfl zq6 ?_
   with_reducible refine (laws_toBoard.calls kj17 a0_0 a0_1 _ _ l0_2 t430 t431 t432 _ ?side1 ?side2 A42.out).mono ?_
   (case side1 => exact zq7)
   (case side2 => exact HC0_2.out)
   rintro e w50 ⟨v433, rfl, ho0, hb⟩
   refine ⟨_, rfl, ?_⟩
   have n0_ := Aside0.mk (Kd.R_elder' zq12 (Kd.R_base ho0) hb)
   have n1_ := Aside0.mk (Kd.R_lower (Kd.R_new' ho0 (Kd.R_lt zq12)) (below_size zq1))
   have n2_ := Aside0.mk (blk_below (g := gb408) (o := .cells #[.int .i64 a0_0, .int .i64 a0_1, .slice A0_2 l0_2.length c0_2] 24 (0, 0)) zq2 hb)
   have n3_ := Aside0.mk (blk_below (g := gb409) (o := .cells #[.int .i64 a1_0, .int .i64 a1_1] 26 (0, 0)) zq5 hb)
   have n4_ := Aside0.mk (blk_below (g := gb425) (o := .cells #[.int .i64 t420, .int .i64 t421, .slice Ao35 t422.length co35] 30 (0, 0)) zq9 hb)
   have n5_ := Aside0.mk (below_step zq1 hb)
   clear HO_426002
   clear BK408
   clear BK409
   clear BK425
   clear HB
   have HO_426002 := n0_
   have HO434 := n1_
   have BK408 := n2_
   have BK409 := n3_
   have BK425 := n4_
   have HB := n5_
   clear n0_ n1_ n2_ n3_ n4_ n5_
   (try clear hb)
   (try clear hb2)
   (try clear hk)
   (try clear hi)
   (try clear ho0)
   (try clear hna_)
   (try clear hnb_)
   obtain ⟨Ao51, co51, eo51⟩ := Kd.R_slice HO434.out
   (first | subst eo51 | (injection eo51 with f1_ f2_ f3_; have f4_ := f1_.symm; have f5_ := f3_.symm; clear f1_ f2_ f3_; subst f4_; subst f5_))
   refine hK.out _ _ ⟨(blk_cell BK425.out 0).trans rfl, (blk_cell BK425.out 1).trans rfl, (blk_cell BK425.out 2).trans rfl, (blk_cell BK408.out 0).trans rfl, (blk_cell BK408.out 1).trans rfl, (blk_cell BK408.out 2).trans rfl⟩ (fun hHeld => ?_)
   clear hK K
   refine norm_ (a' := ?_) ?_ ?_
   rotate_left
   ·show Act.put _ (some 51) _ = _
    simp only [Act.put, List.setIfInBounds_toArray, List.set_cons_zero, List.set_cons_succ, i64_w, i32_w]
    rfl
   refine one_ (i := 3) (N := some 52) #[true, true, true, true, false] rfl rfl (by kernel_rfl) (by decide) (fun K hK => ?_)
   refine goes_ Try.func21 (by kernel_rfl) rfl #[.agg #[.int .i64 t420, .int .i64 t421, .slice Ao35 t422.length co35], .agg #[.int .i64 t430, .int .i64 t431, .slice Ao51 t432.length co51]] (by rfl) rfl rfl zq6 ?_
   with_reducible refine (laws_eqBoard.calls kj17 t420 t421 _ _ t422 t430 t431 _ _ t432 false _ ?side1 ?side2 ?side3 ?side4 A43.out).mono ?_
   (case side1 => exact zq15)
   (case side2 => exact (Kd.R_reads' HO_426002.out).2.1)
   (case side3 => exact zq16)
   (case side4 => exact (Kd.R_reads' HO434.out).2.1)
   rintro e w52 ⟨rfl, hb⟩
   refine ⟨_, rfl, ?_⟩
   have n0_ := Aside0.mk (Kd.R_below zq12 hb)
   have n1_ := Aside0.mk (Kd.R_below (by (with_reducible repeat (first | apply Kd.R_alloc | apply Kd.R_drewN | apply Kd.R_drew)); exact HO434.out) hb)
   have n2_ := Aside0.mk (blk_below (g := gb408) (o := .cells #[.int .i64 a0_0, .int .i64 a0_1, .slice A0_2 l0_2.length c0_2] 24 (0, 0)) zq2 hb)
   have n3_ := Aside0.mk (blk_below (g := gb409) (o := .cells #[.int .i64 a1_0, .int .i64 a1_1] 26 (0, 0)) zq5 hb)
   have n4_ := Aside0.mk (blk_below (g := gb425) (o := .cells #[.int .i64 t420, .int .i64 t421, .slice Ao35 t422.length co35] 30 (0, 0)) zq9 hb)
   have n5_ := Aside0.mk (below_step zq1 hb)
   clear HO_426002
   clear HO434
   clear BK408
   clear BK409
   clear BK425
   clear HB
   have HO_426002 := n0_
   have HO434 := n1_
   have BK408 := n2_
   have BK409 := n3_
   have BK425 := n4_
   have HB := n5_
   clear n0_ n1_ n2_ n3_ n4_ n5_
   (try clear hb)
   (try clear hb2)
   (try clear hk)
   (try clear hi)
   (try clear hna_)
   (try clear hnb_)
   refine hK.out _ _ ⟨(blk_cell BK425.out 0).trans rfl, (blk_cell BK425.out 1).trans rfl, (blk_cell BK425.out 2).trans rfl, (blk_cell BK408.out 0).trans rfl, (blk_cell BK408.out 1).trans rfl, (blk_cell BK408.out 2).trans rfl⟩ (fun hHeld => ?_)
   clear hK K
   refine norm_ (a' := ?_) ?_ ?_
   rotate_left
   ·show Act.put _ (some 52) _ = _
    simp only [Act.put, List.setIfInBounds_toArray, List.set_cons_zero, List.set_cons_succ, i64_w, i32_w]
    rfl
   refine pure_ (i := 4) (N := some 53) (v := ?_) (a' := ?_) #[true, true, true, true, true] rfl rfl (by kernel_rfl) (fun _ _ _ h => h) (Or.inl ⟨by rfl, ?_⟩) ?_ ?_
   rotate_left
   ·intro w'
    go_simp
    with_reducible rfl
   rotate_left
   ·simp only [Act.put, List.setIfInBounds_toArray, List.set_cons_zero, List.set_cons_succ, i64_w, i32_w]
    rfl
   refine done_ (by kernel_rfl) ?_
   try go_wp2
   go_ret
   exact ⟨zq13, zq1⟩

end Go.Proofs.Ythoklbeenjppbaa.Q

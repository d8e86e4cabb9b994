/- Written by a program of this session: functions of the translation as plain Lean functions, each with a proof that the call does what the plain function says; the conditions stand in each theorem. -/
import Derived.Test.YtfjomkjngolboaaQ0
import Derived.Test.YtfjomkjngolboaaQ1
import Derived.Test.YtfjomkjngolboaaQ2
import Derived.Test.YtfjomkjngolboaaQ6
import Derived.Test.YtfjomkjngolboaaQ8
import Derived.Test.YtfjomkjngolboaaQ10
namespace Go.Proofs.Ytfjomkjngolboaa.Q
open Go.RowKit Go.Proofs.YtfjomkjngolboaaW.PrintWords Go.Proofs.YtfjomkjngolboaaW.PrintLast Go.Proofs.YtfjomkjngolboaaW.PrintMore
attribute [local go_sem] max2_int min2_int max_two min_two max_three min_three max_four min_four   -- for this text's walks alone
set_option linter.unusedVariables false
set_option linter.unusedSimpArgs false

theorem zl1 {p : Prop} (h : p := by repeat (first | (with_reducible first | exact HB.out | apply below_alloc | apply pw_below_drewN | apply below_drew1 | refine below_set ?_ GE337.out | refine below_set ?_ GE338.out | refine below_set ?_ GE354.out) | exact HB.out)) : p := h
theorem zl2 {p : Prop} (h : p := by first | exact BK337.out | ((with_reducible repeat (first | refine blk_drewN ?_ _ | refine blk_drew ?_ | refine blk_alloc ?_ _)); exact BK337.out)) : p := h
theorem zl3 {p : Prop} (h : p := by repeat (first | (with_reducible first | exact HB.out | apply below_alloc | apply pw_below_drewN | apply below_drew1 | refine below_set ?_ GE337.out | refine below_set ?_ GE338.out) | exact HB.out)) : p := h
theorem zl4 {p : Prop} (h : p := by first | exact BK338.out | ((with_reducible repeat (first | refine blk_drewN ?_ _ | refine blk_drew ?_ | refine blk_alloc ?_ _)); exact BK338.out)) : p := h
theorem zl5 {p : Prop} (h : p := by (try simp only [List.map_toArray, List.map_cons, List.map_nil]); first | done | rfl | (simp only [List.length_drop, List.length_take]; rfl)) : p := h
theorem zl6 {p : Prop} (h : p := by repeat (first | exact (Kd.C_below HR0_2.out HB.out) | (with_reducible refine Kd.C_alloc ?_ _) | (with_reducible refine Kd.C_drewN ?_ _) | (with_reducible refine Kd.C_drew ?_))) : p := h
theorem zl7 {p : Prop} (h : p := by repeat (first | (with_reducible first | exact HB.out | apply below_alloc | apply pw_below_drewN | apply below_drew1 | refine below_set ?_ GE337.out) | exact HB.out)) : p := h
theorem zl8 {p : Prop} (h : p := by first | exact BK354.out | ((with_reducible repeat (first | refine blk_drewN ?_ _ | refine blk_drew ?_ | refine blk_alloc ?_ _)); exact BK354.out)) : p := h
theorem zl9 {p : Prop} (h : p := by repeat (first | (with_reducible first | exact HB.out | apply below_alloc | apply pw_below_drewN | apply below_drew1) | exact HB.out)) : p := h
theorem zl10 {p : Prop} (h : p := by first | exact HO344.out | ((with_reducible repeat (first | apply Kd.R_alloc | apply Kd.R_drewN | apply Kd.R_drew)); exact HO344.out)) : p := h
theorem zl11 {p : Prop} (h : p := by first | exact HO_355002.out | ((with_reducible repeat (first | apply Kd.R_alloc | apply Kd.R_drewN | apply Kd.R_drew)); exact HO_355002.out)) : p := h
theorem zl12 {p : Prop} (h : p := by first | rfl | (simp [errW_none, errW_some] <;> rfl) | (simp [*, errW_none, errW_some] <;> rfl)) : p := h
theorem zl13 {p : Prop} (h : p := by first | exact HO353.out | ((with_reducible repeat (first | apply Kd.R_alloc | apply Kd.R_drewN | apply Kd.R_drew)); exact HO353.out)) : p := h
theorem zl14 {p : Prop} (h : p := by repeat (first | exact (Kd.R_reads' HO_355002.out).2.2 | (with_reducible refine Kd.C_alloc ?_ _) | (with_reducible refine Kd.C_drewN ?_ _) | (with_reducible refine Kd.C_drew ?_))) : p := h
theorem zl15 {p : Prop} (h : p := by repeat (first | exact (Kd.R_reads' HO363.out).2.2 | (with_reducible refine Kd.C_alloc ?_ _) | (with_reducible refine Kd.C_drewN ?_ _) | (with_reducible refine Kd.C_drew ?_))) : p := h
theorem zl16 {p : Prop} (h : p := by (with_reducible repeat (first | apply Kd.R_alloc | apply Kd.R_drewN | apply Kd.R_drew)); exact Kd.R_mono HO353.out (fun _ hk => trivial)) : p := h
theorem zl17 {p : Prop} (h : p := by rw [hg]; exact Nat.ne_of_lt (blk_lt (g := gb337) (o := .cells #[.int .i64 a0_0, .int .i64 a0_1, .slice A0_2 l0_2.length c0_2] 24 (0, 0)) zl2)) : p := h
theorem zl18 {p : Prop} (h : p := by rw [hg]; exact Nat.ne_of_gt (blk_lt (g := gb337) (o := .cells #[.int .i64 a0_0, .int .i64 a0_1, .slice A0_2 l0_2.length c0_2] 24 (0, 0)) zl2)) : p := h
/-! ### laws_FnExactMostPairs: function 3 -/
def laws_FnExactMostPairs.j0 : Nat → Bool → Int → Int → List Int → Int → Int → List Int → Option (Bool)
 | 0, _, _, _, _, _, _, _ => none
 | k + 1, x40, x338000, x338001, x338002, x355000, x355001, x355002 => if x40 = true then (some false) else ((laws_toBoard.f k x338000 x338001 x338002).bind fun bt359 => ((laws_eqBoard.f k x355000 x355001 x355002 bt359.1 bt359.2.1 bt359.2.2).bind fun t364 => (if t364 = true then (some true) else (some false))))
def laws_FnExactMostPairs.f (k : Nat) (a0_0 : Int) (a0_1 : Int) (l0_2 : List Int) (a1_0 : Int) (a1_1 : Int) : Option (Bool) := (laws_szBoard.f a0_0 a0_1 l0_2 1048576).bind fun t339 => (if t339 < 0 then (some true) else ((laws_toBoard.f k a0_0 a0_1 l0_2).bind fun bt340 => ((laws_toLeaper.f a1_0 a1_1).bind fun bt345 => ((spec_MostPairs.f k bt340.1 bt340.2.1 bt340.2.2 bt345.1 bt345.2).bind fun bt347 => ((laws_toBoard.f k a0_0 a0_1 l0_2).bind fun bt349 => ((laws_toLeaper.f a1_0 a1_1).bind fun bt355 => ((impl_MostPairs.f k bt349.1 bt349.2.1 bt349.2.2 bt355.1 bt355.2).bind fun bt357 => (if bt357.1 = bt347.1 then (laws_FnExactMostPairs.j0 k (bt357.2 != bt347.2) a0_0 a0_1 l0_2 bt349.1 bt349.2.1 bt349.2.2) else (laws_FnExactMostPairs.j0 k true a0_0 a0_1 l0_2 bt349.1 bt349.2.1 bt349.2.2)))))))))
def laws_FnExactMostPairs.T5 : Bool × List (List Nat × List Nat) := (true, [([], []), ([0], [0]), ([], []), ([2, 1], [2]), ([1, 3, 3], [1, 3]), ([4], [4]), ([5], [5]), ([5], [5]), ([6, 4, 0, 1, 2, 3, 4, 5, 6], [6]), ([7, 8, 0, 1, 2, 3, 4, 5, 6, 7, 8], [7])])
def laws_FnExactMostPairs.B5 : List Nat := [0, 1, 0, 7, 15, 31, 63, 63, 127, 511]
theorem laws_FnExactMostPairs.tab5 : rtab .any (opsOf Try.f3 5) = laws_FnExactMostPairs.T5 := by kernel_rfl
theorem laws_FnExactMostPairs.bits5 : waitsOk laws_FnExactMostPairs.T5.2 laws_FnExactMostPairs.B5 = true := by kernel_rfl
def laws_FnExactMostPairs.T7 : Bool × List (List Nat × List Nat) := (true, [([], []), ([], []), ([1], [1]), ([0, 2, 2], [0, 2]), ([3], [3]), ([4], [4]), ([4], [4]), ([5, 3, 0, 1, 2, 3, 4, 5], [5]), ([6, 7, 0, 1, 2, 3, 4, 5, 6, 7], [6])])
def laws_FnExactMostPairs.B7 : List Nat := [0, 0, 2, 7, 15, 31, 31, 63, 255]
theorem laws_FnExactMostPairs.tab7 : rtab .any (opsOf Try.f3 7) = laws_FnExactMostPairs.T7 := by kernel_rfl
theorem laws_FnExactMostPairs.bits7 : waitsOk laws_FnExactMostPairs.T7.2 laws_FnExactMostPairs.B7 = true := by kernel_rfl
set_option maxHeartbeats 8000000 in
set_option maxRecDepth 100000 in
theorem laws_FnExactMostPairs.calls (k : Nat) (a0_0 : Int) (a0_1 : Int) (A0_2 : Option Addr) (c0_2 : Nat) (l0_2 : List Int) (a1_0 : Int) (a1_1 : Int) (r : Bool) (w : World) (hr0_2 : Kd.C (Kd.int .i64) w A0_2 l0_2.length l0_2) (hc0_2 : l0_2.length ≤ c0_2) (h : laws_FnExactMostPairs.f k a0_0 a0_1 l0_2 a1_0 a1_1 = some r) :
  Calls Try.prog 3 #[.agg #[.int .i64 a0_0, .int .i64 a0_1, .slice A0_2 l0_2.length c0_2], .agg #[.int .i64 a1_0, .int .i64 a1_1]] w fun e w' => e = .returned (.bool r) ∧ Below w.heap.size w w' := by
 have hu24 := Try.underlying24
 have hu26 := Try.underlying26
 have hu30 := Try.underlying30
 have HR0_2 := Aside0.mk hr0_2
 have HC0_2 := Aside0.mk hc0_2
 clear hr0_2 hc0_2
 have HB := Aside0.mk (Below.refl w.heap.size w)
 have H : ((laws_szBoard.f a0_0 a0_1 l0_2 1048576).bind fun t339 => (if t339 < 0 then (some true) else ((laws_toBoard.f k a0_0 a0_1 l0_2).bind fun bt340 => ((laws_toLeaper.f a1_0 a1_1).bind fun bt345 => ((spec_MostPairs.f k bt340.1 bt340.2.1 bt340.2.2 bt345.1 bt345.2).bind fun bt347 => ((laws_toBoard.f k a0_0 a0_1 l0_2).bind fun bt349 => ((laws_toLeaper.f a1_0 a1_1).bind fun bt355 => ((impl_MostPairs.f k bt349.1 bt349.2.1 bt349.2.2 bt355.1 bt355.2).bind fun bt357 => (if bt357.1 = bt347.1 then (laws_FnExactMostPairs.j0 k (bt357.2 != bt347.2) a0_0 a0_1 l0_2 bt349.1 bt349.2.1 bt349.2.2) else (laws_FnExactMostPairs.j0 k true a0_0 a0_1 l0_2 bt349.1 bt349.2.1 bt349.2.2)))))))))) = some r := h
 clear h
 replace H := Option.bind_eq_some_iff.mp H
 obtain ⟨t339, A30, H⟩ := H
 replace H : (if t339 < 0 then (some true) else ((laws_toBoard.f k a0_0 a0_1 l0_2).bind fun bt340 => ((laws_toLeaper.f a1_0 a1_1).bind fun bt345 => ((spec_MostPairs.f k bt340.1 bt340.2.1 bt340.2.2 bt345.1 bt345.2).bind fun bt347 => ((laws_toBoard.f k a0_0 a0_1 l0_2).bind fun bt349 => ((laws_toLeaper.f a1_0 a1_1).bind fun bt355 => ((impl_MostPairs.f k bt349.1 bt349.2.1 bt349.2.2 bt355.1 bt355.2).bind fun bt357 => (if bt357.1 = bt347.1 then (laws_FnExactMostPairs.j0 k (bt357.2 != bt347.2) a0_0 a0_1 l0_2 bt349.1 bt349.2.1 bt349.2.2) else (laws_FnExactMostPairs.j0 k true a0_0 a0_1 l0_2 bt349.1 bt349.2.1 bt349.2.2))))))))) = some r := H
 have A3 := Aside0.mk A30
 clear A30
 by_cases c4 : t339 < 0
 ·rw [if_pos c4] at H
  have c4b0 : decide (t339 < 0) = true := decide_eq_true c4
  clear c4
  obtain rfl := Option.some.inj H
  go_enter Try.func3, Try.ntmps3
  go_wp2_with (first | ((with_reducible refine gate_dst (N := 2) rfl ?_); refine box_event ?hg (N := 2) ?hd (cs := #[.int .i64 a0_0, .int .i64 a0_1, .slice A0_2 l0_2.length c0_2]) (t := 24) ?hr ?_; (case hd => rfl); (case hg => rfl); (case hr => first | (go_simp; done) | (go_simp; rfl)); intro gb337 hg w5 hbox hb; have n0_ := Aside0.mk (below_step zl9 hb); have n1_ := Aside0.mk (hbox); have n2_ := Aside0.mk ((by rw [hg]; exact (below_size zl9) : w.heap.size ≤ gb337)); have n3_ := Aside0.mk ((by rw [hg]; exact (below_size zl9) : w.heap.size ≤ gb337)); clear HB; have HB := n0_; have BK337 := n1_; have GW337 := n2_; have GE337 := n3_; clear n0_ n1_ n2_ n3_; clear hb hbox hg) | ((with_reducible refine gate_dst (N := 3) rfl ?_); refine box_event ?hg (N := 3) ?hd (cs := #[.int .i64 a1_0, .int .i64 a1_1]) (t := 26) ?hr ?_; (case hd => rfl); (case hg => rfl); (case hr => first | (go_simp; done) | (go_simp; rfl)); intro gb338 hg w6 hbox hb; have n0_ := Aside0.mk (blk_below (g := gb337) (o := .cells #[.int .i64 a0_0, .int .i64 a0_1, .slice A0_2 l0_2.length c0_2] 24 (0, 0)) zl2 hb); have n1_ := Aside0.mk (below_step zl7 hb); have n2_ := Aside0.mk (hbox); have n3_ := Aside0.mk ((by rw [hg]; exact (below_size zl7) : w.heap.size ≤ gb338)); have n4_ := Aside0.mk ((by rw [hg]; exact (below_size zl7) : w.heap.size ≤ gb338)); have n5_ := Aside0.mk ((zl17 : gb337 ≠ gb338)); have n6_ := Aside0.mk ((zl18 : gb338 ≠ gb337)); clear BK337; clear HB; have BK337 := n0_; have HB := n1_; have BK338 := n2_; have GW338 := n3_; have GE338 := n4_; have NB337_338 := n5_; have NB338_337 := n6_; clear n0_ n1_ n2_ n3_ n4_ n5_ n6_; clear hb hbox hg; have hnb7 := NB337_338.out; have hnc7 := NB338_337.out; have hcz8_0 : w6.cell? ⟨gb337, 0, none⟩ = some (.int .i64 a0_0) := (blk_cell BK337.out 0).trans rfl; have hcz8_1 : w6.cell? ⟨gb337, 1, none⟩ = some (.int .i64 a0_1) := (blk_cell BK337.out 1).trans rfl; have hcz8_2 : w6.cell? ⟨gb337, 2, none⟩ = some (.slice A0_2 l0_2.length c0_2) := (blk_cell BK337.out 2).trans rfl; have hfz8_0 := blk_frozen BK337.out 0; have hfz8_1 := blk_frozen BK337.out 1; have hfz8_2 := blk_frozen BK337.out 2) | ((with_reducible refine gate_callee (f := 5) rfl ?_); refine goesL_ (some 13) rfl rfl Try.func5 (by kernel_rfl) rfl #[.agg #[.int .i64 a0_0, .int .i64 a0_1, .slice A0_2 l0_2.length c0_2], .int .i64 1048576] rfl zl5 ?_; (with_reducible refine (laws_szBoard.calls a0_0 a0_1 _ _ l0_2 1048576 t339 _ ?side1 ?side2 A3.out).mono ?_); (case side1 => exact zl6); (case side2 => exact HC0_2.out); rintro e w9 ⟨rfl, hb⟩; refine ⟨_, rfl, ?_⟩; have n0_ := Aside0.mk (blk_below (g := gb337) (o := .cells #[.int .i64 a0_0, .int .i64 a0_1, .slice A0_2 l0_2.length c0_2] 24 (0, 0)) zl2 hb); have n1_ := Aside0.mk (blk_below (g := gb338) (o := .cells #[.int .i64 a1_0, .int .i64 a1_1] 26 (0, 0)) zl4 hb); have n2_ := Aside0.mk (below_step zl3 hb); clear BK337; clear BK338; clear HB; have BK337 := n0_; have BK338 := n1_; have HB := n2_; clear n0_ n1_ n2_; (try clear hb); (try clear hb2); (try clear hk); (try clear hi); (try clear hna_); (try clear hnb_)))
  go_ret
  exact ⟨zl12, zl3⟩
 rw [if_neg c4] at H
 have c4b0 : decide (t339 < 0) = false := decide_eq_false c4
 clear c4
 replace H := Option.bind_eq_some_iff.mp H
 obtain ⟨⟨t340, t341, t342⟩, A100, H⟩ := H
 replace H : ((laws_toLeaper.f a1_0 a1_1).bind fun bt345 => ((spec_MostPairs.f k t340 t341 t342 bt345.1 bt345.2).bind fun bt347 => ((laws_toBoard.f k a0_0 a0_1 l0_2).bind fun bt349 => ((laws_toLeaper.f a1_0 a1_1).bind fun bt355 => ((impl_MostPairs.f k bt349.1 bt349.2.1 bt349.2.2 bt355.1 bt355.2).bind fun bt357 => (if bt357.1 = bt347.1 then (laws_FnExactMostPairs.j0 k (bt357.2 != bt347.2) a0_0 a0_1 l0_2 bt349.1 bt349.2.1 bt349.2.2) else (laws_FnExactMostPairs.j0 k true a0_0 a0_1 l0_2 bt349.1 bt349.2.1 bt349.2.2))))))) = some r := H
 have A10 := Aside0.mk A100
 clear A100
 replace H := Option.bind_eq_some_iff.mp H
 obtain ⟨⟨t345, t346⟩, A110, H⟩ := H
 replace H : ((spec_MostPairs.f k t340 t341 t342 t345 t346).bind fun bt347 => ((laws_toBoard.f k a0_0 a0_1 l0_2).bind fun bt349 => ((laws_toLeaper.f a1_0 a1_1).bind fun bt355 => ((impl_MostPairs.f k bt349.1 bt349.2.1 bt349.2.2 bt355.1 bt355.2).bind fun bt357 => (if bt357.1 = bt347.1 then (laws_FnExactMostPairs.j0 k (bt357.2 != bt347.2) a0_0 a0_1 l0_2 bt349.1 bt349.2.1 bt349.2.2) else (laws_FnExactMostPairs.j0 k true a0_0 a0_1 l0_2 bt349.1 bt349.2.1 bt349.2.2)))))) = some r := H
 have A11 := Aside0.mk A110
 clear A110
 replace H := Option.bind_eq_some_iff.mp H
 obtain ⟨⟨t347, t348⟩, A120, H⟩ := H
 replace H : ((laws_toBoard.f k a0_0 a0_1 l0_2).bind fun bt349 => ((laws_toLeaper.f a1_0 a1_1).bind fun bt355 => ((impl_MostPairs.f k bt349.1 bt349.2.1 bt349.2.2 bt355.1 bt355.2).bind fun bt357 => (if bt357.1 = t347 then (laws_FnExactMostPairs.j0 k (bt357.2 != t348) a0_0 a0_1 l0_2 bt349.1 bt349.2.1 bt349.2.2) else (laws_FnExactMostPairs.j0 k true a0_0 a0_1 l0_2 bt349.1 bt349.2.1 bt349.2.2))))) = some r := H
 have A12 := Aside0.mk A120
 clear A120
 replace H := Option.bind_eq_some_iff.mp H
 obtain ⟨⟨t349, t350, t351⟩, A130, H⟩ := H
 replace H : ((laws_toLeaper.f a1_0 a1_1).bind fun bt355 => ((impl_MostPairs.f k t349 t350 t351 bt355.1 bt355.2).bind fun bt357 => (if bt357.1 = t347 then (laws_FnExactMostPairs.j0 k (bt357.2 != t348) a0_0 a0_1 l0_2 t349 t350 t351) else (laws_FnExactMostPairs.j0 k true a0_0 a0_1 l0_2 t349 t350 t351)))) = some r := H
 have A13 := Aside0.mk A130
 clear A130
 replace H := Option.bind_eq_some_iff.mp H
 obtain ⟨⟨t355, t356⟩, A140, H⟩ := H
 replace H : ((impl_MostPairs.f k t349 t350 t351 t355 t356).bind fun bt357 => (if bt357.1 = t347 then (laws_FnExactMostPairs.j0 k (bt357.2 != t348) a0_0 a0_1 l0_2 t349 t350 t351) else (laws_FnExactMostPairs.j0 k true a0_0 a0_1 l0_2 t349 t350 t351))) = some r := H
 have A14 := Aside0.mk A140
 clear A140
 replace H := Option.bind_eq_some_iff.mp H
 obtain ⟨⟨t357, t358⟩, A150, H⟩ := H
 replace H : (if t357 = t347 then (laws_FnExactMostPairs.j0 k (t358 != t348) a0_0 a0_1 l0_2 t349 t350 t351) else (laws_FnExactMostPairs.j0 k true a0_0 a0_1 l0_2 t349 t350 t351)) = some r := H
 have A15 := Aside0.mk A150
 clear A150
 have HC16 := Aside0.mk H
 clear H
 go_enter Try.func3, Try.ntmps3
 try go_wp2_with (first | ((with_reducible refine gate_dst (N := 2) rfl ?_); refine box_event ?hg (N := 2) ?hd (cs := #[.int .i64 a0_0, .int .i64 a0_1, .slice A0_2 l0_2.length c0_2]) (t := 24) ?hr ?_; (case hd => rfl); (case hg => rfl); (case hr => first | (go_simp; done) | (go_simp; rfl)); intro gb337 hg w17 hbox hb; have n0_ := Aside0.mk (below_step zl9 hb); have n1_ := Aside0.mk (hbox); have n2_ := Aside0.mk ((by rw [hg]; exact (below_size zl9) : w.heap.size ≤ gb337)); have n3_ := Aside0.mk ((by rw [hg]; exact (below_size zl9) : w.heap.size ≤ gb337)); clear HB; have HB := n0_; have BK337 := n1_; have GW337 := n2_; have GE337 := n3_; clear n0_ n1_ n2_ n3_; clear hb hbox hg) | ((with_reducible refine gate_dst (N := 3) rfl ?_); refine box_event ?hg (N := 3) ?hd (cs := #[.int .i64 a1_0, .int .i64 a1_1]) (t := 26) ?hr ?_; (case hd => rfl); (case hg => rfl); (case hr => first | (go_simp; done) | (go_simp; rfl)); intro gb338 hg w18 hbox hb; have n0_ := Aside0.mk (blk_below (g := gb337) (o := .cells #[.int .i64 a0_0, .int .i64 a0_1, .slice A0_2 l0_2.length c0_2] 24 (0, 0)) zl2 hb); have n1_ := Aside0.mk (below_step zl7 hb); have n2_ := Aside0.mk (hbox); have n3_ := Aside0.mk ((by rw [hg]; exact (below_size zl7) : w.heap.size ≤ gb338)); have n4_ := Aside0.mk ((by rw [hg]; exact (below_size zl7) : w.heap.size ≤ gb338)); have n5_ := Aside0.mk ((zl17 : gb337 ≠ gb338)); have n6_ := Aside0.mk ((zl18 : gb338 ≠ gb337)); clear BK337; clear HB; have BK337 := n0_; have HB := n1_; have BK338 := n2_; have GW338 := n3_; have GE338 := n4_; have NB337_338 := n5_; have NB338_337 := n6_; clear n0_ n1_ n2_ n3_ n4_ n5_ n6_; clear hb hbox hg; have hnb19 := NB337_338.out; have hnc19 := NB338_337.out; have hcz20_0 : w18.cell? ⟨gb337, 0, none⟩ = some (.int .i64 a0_0) := (blk_cell BK337.out 0).trans rfl; have hcz20_1 : w18.cell? ⟨gb337, 1, none⟩ = some (.int .i64 a0_1) := (blk_cell BK337.out 1).trans rfl; have hcz20_2 : w18.cell? ⟨gb337, 2, none⟩ = some (.slice A0_2 l0_2.length c0_2) := (blk_cell BK337.out 2).trans rfl; have hfz20_0 := blk_frozen BK337.out 0; have hfz20_1 := blk_frozen BK337.out 1; have hfz20_2 := blk_frozen BK337.out 2) | ((with_reducible refine gate_callee (f := 5) rfl ?_); refine goesL_ (some 13) rfl rfl Try.func5 (by kernel_rfl) rfl #[.agg #[.int .i64 a0_0, .int .i64 a0_1, .slice A0_2 l0_2.length c0_2], .int .i64 1048576] rfl zl5 ?_; (with_reducible refine (laws_szBoard.calls a0_0 a0_1 _ _ l0_2 1048576 t339 _ ?side1 ?side2 A3.out).mono ?_); (case side1 => exact zl6); (case side2 => exact HC0_2.out); rintro e w21 ⟨rfl, hb⟩; refine ⟨_, rfl, ?_⟩; have n0_ := Aside0.mk (blk_below (g := gb337) (o := .cells #[.int .i64 a0_0, .int .i64 a0_1, .slice A0_2 l0_2.length c0_2] 24 (0, 0)) zl2 hb); have n1_ := Aside0.mk (blk_below (g := gb338) (o := .cells #[.int .i64 a1_0, .int .i64 a1_1] 26 (0, 0)) zl4 hb); have n2_ := Aside0.mk (below_step zl3 hb); clear BK337; clear BK338; clear HB; have BK337 := n0_; have BK338 := n1_; have HB := n2_; clear n0_ n1_ n2_; (try clear hb); (try clear hb2); (try clear hk); (try clear hi); (try clear hna_); (try clear hnb_)))
 have n0_ := Aside0.mk (blk_drew BK337.out)
 have n1_ := Aside0.mk (blk_drew BK338.out)
 have n2_ := Aside0.mk (below_drew1 HB.out)
 clear BK337
 clear BK338
 clear HB
 have BK337 := n0_
 have BK338 := n1_
 have HB := n2_
 clear n0_ n1_ n2_
 refine start_ (n := 10) (S := fun w' => w'.cell? ⟨gb337, 0, none⟩ = some (.int .i64 a0_0) ∧ w'.cell? ⟨gb337, 1, none⟩ = some (.int .i64 a0_1) ∧ w'.cell? ⟨gb337, 2, none⟩ = some (.slice A0_2 l0_2.length c0_2) ∧ w'.cell? ⟨gb338, 0, none⟩ = some (.int .i64 a1_0) ∧ w'.cell? ⟨gb338, 1, none⟩ = some (.int .i64 a1_1)) (ds := []) #[false, false, false, false, false, false, false, false, false, false] (by kernel_rfl) rfl rfl ⟨(blk_cell BK337.out 0).trans rfl, (blk_cell BK337.out 1).trans rfl, (blk_cell BK337.out 2).trans rfl, (blk_cell BK338.out 0).trans rfl, (blk_cell BK338.out 1).trans rfl⟩ (fun hHeld => ?_); refine with_tabW laws_FnExactMostPairs.tab5 laws_FnExactMostPairs.bits5 (fun HT_ HW_ => ?_)
 generalize w21.drew = w22 at BK337 BK338 HB hHeld ⊢
 refine take_ (i := 0) (N := some 17) (v := ?_) (a' := ?_) #[true, false, false, false, false, false, false, false, false, false] rfl rfl (take_ofW HT_.out HW_.out (by kernel_rfl)) (fun _ _ _ h => h) (Or.inl ⟨by rfl, ?_⟩) hHeld ?_ ?_
 rotate_left
 ·rintro w' ⟨s0, s1, s2, s3, s4⟩
  go_simp
  with_reducible rfl
 rotate_left
 ·simp only [Act.put, List.setIfInBounds_toArray, List.set_cons_zero, List.set_cons_succ, i64_w, i32_w]
  rfl
 refine take_ (i := 2) (N := some 19) (v := ?_) (a' := ?_) #[true, false, true, false, false, false, false, false, false, false] rfl rfl (take_ofW HT_.out HW_.out (by kernel_rfl)) (fun _ _ _ h => h) (Or.inl ⟨by rfl, ?_⟩) hHeld ?_ ?_
 rotate_left
 ·rintro w' ⟨s0, s1, s2, s3, s4⟩
  go_simp
  with_reducible rfl
 rotate_left
 ·simp only [Act.put, List.setIfInBounds_toArray, List.set_cons_zero, List.set_cons_succ, i64_w, i32_w]
  rfl
 refine one_ (i := 1) (N := some 18) #[true, true, true, false, false, false, false, false, false, false] rfl rfl (one_of HT_.out (by kernel_rfl)) (by decide) (fun K hK => ?_)
 refine goes_ Try.func7 (by kernel_rfl) rfl #[.agg #[.int .i64 a0_0, .int .i64 a0_1, .slice A0_2 l0_2.length c0_2]] (by rfl) rfl rfl zl5 ?_
 with_reducible refine (laws_toBoard.calls k a0_0 a0_1 _ _ l0_2 t340 t341 t342 _ ?side1 ?side2 A10.out).mono ?_
 (case side1 => exact zl6)
 (case side2 => exact HC0_2.out)
 rintro e w23 ⟨v343, rfl, ho0, hb⟩
 refine ⟨_, rfl, ?_⟩
 have n0_ := Aside0.mk (Kd.R_lower ho0 (below_size zl3))
 have n1_ := Aside0.mk (blk_below (g := gb337) (o := .cells #[.int .i64 a0_0, .int .i64 a0_1, .slice A0_2 l0_2.length c0_2] 24 (0, 0)) zl2 hb)
 have n2_ := Aside0.mk (blk_below (g := gb338) (o := .cells #[.int .i64 a1_0, .int .i64 a1_1] 26 (0, 0)) zl4 hb)
 have n3_ := Aside0.mk (below_step zl3 hb)
 clear BK337
 clear BK338
 clear HB
 have HO344 := n0_
 have BK337 := n1_
 have BK338 := n2_
 have HB := n3_
 clear n0_ n1_ n2_ n3_
 (try clear hb)
 (try clear hb2)
 (try clear hk)
 (try clear hi)
 (try clear ho0)
 (try clear hna_)
 (try clear hnb_)
 refine hK.out _ _ ⟨(blk_cell BK337.out 0).trans rfl, (blk_cell BK337.out 1).trans rfl, (blk_cell BK337.out 2).trans rfl, (blk_cell BK338.out 0).trans rfl, (blk_cell BK338.out 1).trans rfl⟩ (fun hHeld => ?_)
 clear hK K
 refine norm_ (a' := ?_) ?_ ?_
 rotate_left
 ·show Act.put _ (some 18) _ = _
  simp only [Act.put, List.setIfInBounds_toArray, List.set_cons_zero, List.set_cons_succ, i64_w, i32_w]
  rfl
 refine one_ (i := 3) (N := some 20) #[true, true, true, true, false, false, false, false, false, false] rfl rfl (one_of HT_.out (by kernel_rfl)) (by decide) (fun K hK => ?_)
 refine goes_ Try.func8 (by kernel_rfl) rfl #[.agg #[.int .i64 a1_0, .int .i64 a1_1]] (by rfl) rfl rfl zl5 ?_
 with_reducible refine (laws_toLeaper.calls a1_0 a1_1 t345 t346 _ A11.out).mono ?_
 rintro e w24 ⟨rfl, hb⟩
 refine ⟨_, rfl, ?_⟩
 have n0_ := Aside0.mk (Kd.R_below zl10 hb)
 have n1_ := Aside0.mk (blk_below (g := gb337) (o := .cells #[.int .i64 a0_0, .int .i64 a0_1, .slice A0_2 l0_2.length c0_2] 24 (0, 0)) zl2 hb)
 have n2_ := Aside0.mk (blk_below (g := gb338) (o := .cells #[.int .i64 a1_0, .int .i64 a1_1] 26 (0, 0)) zl4 hb)
 have n3_ := Aside0.mk (below_step zl3 hb)
 clear HO344
 clear BK337
 clear BK338
 clear HB
 have HO344 := n0_
 have BK337 := n1_
 have BK338 := n2_
 have HB := n3_
 clear n0_ n1_ n2_ n3_
 (try clear hb)
 (try clear hb2)
 (try clear hk)
 (try clear hi)
 (try clear hna_)
 (try clear hnb_)
 obtain ⟨Ao25, co25, eo25⟩ := Kd.R_slice HO344.out
 (first | subst eo25 | (injection eo25 with f1_ f2_ f3_; have f4_ := f1_.symm; have f5_ := f3_.symm; clear f1_ f2_ f3_; subst f4_; subst f5_))
 refine hK.out _ _ ⟨(blk_cell BK337.out 0).trans rfl, (blk_cell BK337.out 1).trans rfl, (blk_cell BK337.out 2).trans rfl, (blk_cell BK338.out 0).trans rfl, (blk_cell BK338.out 1).trans rfl⟩ (fun hHeld => ?_)
 clear hK K
 refine norm_ (a' := ?_) ?_ ?_
 rotate_left
 ·show Act.put _ (some 20) _ = _
  simp only [Act.put, List.setIfInBounds_toArray, List.set_cons_zero, List.set_cons_succ, i64_w, i32_w]
  rfl
 refine one_ (i := 4) (N := some 21) #[true, true, true, true, true, false, false, false, false, false] rfl rfl (one_of HT_.out (by kernel_rfl)) (by decide) (fun K hK => ?_)
 refine goes_ Try.func6 (by kernel_rfl) rfl #[.agg #[.int .i64 t340, .int .i64 t341, .slice Ao25 t342.length co25], .agg #[.int .i64 t345, .int .i64 t346]] (by rfl) rfl rfl zl5 ?_
 with_reducible refine (spec_MostPairs.calls k t340 t341 _ _ t342 t345 t346 t347 t348 _ ?side1 ?side2 A12.out).mono ?_
 (case side1 => repeat (first | exact (Kd.R_reads' HO344.out).2.2 | (with_reducible refine Kd.C_alloc ?_ _) | (with_reducible refine Kd.C_drewN ?_ _) | (with_reducible refine Kd.C_drew ?_)))
 (case side2 => exact (Kd.R_reads' HO344.out).2.1)
 rintro e w26 ⟨rfl, hb⟩
 refine ⟨_, rfl, ?_⟩
 have n0_ := Aside0.mk (Kd.R_below zl10 hb)
 have n1_ := Aside0.mk (blk_below (g := gb337) (o := .cells #[.int .i64 a0_0, .int .i64 a0_1, .slice A0_2 l0_2.length c0_2] 24 (0, 0)) zl2 hb)
 have n2_ := Aside0.mk (blk_below (g := gb338) (o := .cells #[.int .i64 a1_0, .int .i64 a1_1] 26 (0, 0)) zl4 hb)
 have n3_ := Aside0.mk (below_step zl3 hb)
 clear HO344
 clear BK337
 clear BK338
 clear HB
 have HO344 := n0_
 have BK337 := n1_
 have BK338 := n2_
 have HB := n3_
 clear n0_ n1_ n2_ n3_
 (try clear hb)
 (try clear hb2)
 (try clear hk)
 (try clear hi)
 (try clear hna_)
 (try clear hnb_)
 refine hK.out _ _ ⟨(blk_cell BK337.out 0).trans rfl, (blk_cell BK337.out 1).trans rfl, (blk_cell BK337.out 2).trans rfl, (blk_cell BK338.out 0).trans rfl, (blk_cell BK338.out 1).trans rfl⟩ (fun hHeld => ?_)
 clear hK K
 refine norm_ (a' := ?_) ?_ ?_
 rotate_left
 ·show Act.put _ (some 21) _ = _
  simp only [Act.put, List.setIfInBounds_toArray, List.set_cons_zero, List.set_cons_succ, i64_w, i32_w]
  rfl
 refine pure_ (i := 5) (N := some 16) (v := ?_) (a' := ?_) #[true, true, true, true, true, true, false, false, false, false] rfl rfl (any_of HT_.out (by kernel_rfl)) (fun _ _ _ h => h) (Or.inl ⟨by rfl, ?_⟩) ?_ ?_
 rotate_left
 ·intro w'
  go_simp
  with_reducible rfl
 rotate_left
 ·simp only [Act.put, List.setIfInBounds_toArray, List.set_cons_zero, List.set_cons_succ, i64_w, i32_w]
  rfl
 refine pure_ (i := 6) (N := some 22) (v := ?_) (a' := ?_) #[true, true, true, true, true, true, true, false, false, false] rfl rfl (any_of HT_.out (by kernel_rfl)) (fun _ _ _ h => h) (Or.inl ⟨by rfl, ?_⟩) ?_ ?_
 rotate_left
 ·intro w'
  go_simp
  with_reducible rfl
 rotate_left
 ·simp only [Act.put, List.setIfInBounds_toArray, List.set_cons_zero, List.set_cons_succ, i64_w, i32_w]
  rfl
 refine pure_ (i := 7) (N := some 23) (v := ?_) (a' := ?_) #[true, true, true, true, true, true, true, true, false, false] rfl rfl (any_of HT_.out (by kernel_rfl)) (fun _ _ _ h => h) (Or.inl ⟨by rfl, ?_⟩) ?_ ?_
 rotate_left
 ·intro w'
  go_simp
  with_reducible rfl
 rotate_left
 ·simp only [Act.put, List.setIfInBounds_toArray, List.set_cons_zero, List.set_cons_succ, i64_w, i32_w]
  rfl
 refine pure_ (i := 8) (N := some 6) (v := ?_) (a' := ?_) #[true, true, true, true, true, true, true, true, true, false] rfl rfl (any_of HT_.out (by kernel_rfl)) (fun _ _ _ h => h) (Or.inl ⟨by rfl, ?_⟩) ?_ ?_
 rotate_left
 ·intro w'
  go_simp
  with_reducible rfl
 rotate_left
 ·simp only [Act.put, List.setIfInBounds_toArray, List.set_cons_zero, List.set_cons_succ, i64_w, i32_w]
  rfl
 refine pure_ (i := 9) (N := some 7) (v := ?_) (a' := ?_) #[true, true, true, true, true, true, true, true, true, true] rfl rfl (any_of HT_.out (by kernel_rfl)) (fun _ _ _ h => h) (Or.inl ⟨by rfl, ?_⟩) ?_ ?_
 rotate_left
 ·intro w'
  go_simp
  with_reducible rfl
 rotate_left
 ·simp only [Act.put, List.setIfInBounds_toArray, List.set_cons_zero, List.set_cons_succ, i64_w, i32_w]
  rfl
 refine done_ (done_of HT_.out (by kernel_rfl)) ?_
 have hcz27_0 : w26.cell? ⟨gb337, 0, none⟩ = some (.int .i64 a0_0) := (blk_cell BK337.out 0).trans rfl
 have hcz27_1 : w26.cell? ⟨gb337, 1, none⟩ = some (.int .i64 a0_1) := (blk_cell BK337.out 1).trans rfl
 have hcz27_2 : w26.cell? ⟨gb337, 2, none⟩ = some (.slice A0_2 l0_2.length c0_2) := (blk_cell BK337.out 2).trans rfl
 have hfz27_0 := blk_frozen BK337.out 0
 have hfz27_1 := blk_frozen BK337.out 1
 have hfz27_2 := blk_frozen BK337.out 2
 try go_wp2_with (first | ((with_reducible refine gate_callee (f := 7) rfl ?_); refine goesL_ (some 25) rfl rfl Try.func7 (by kernel_rfl) rfl #[.agg #[.int .i64 a0_0, .int .i64 a0_1, .slice A0_2 l0_2.length c0_2]] rfl zl5 ?_; (with_reducible refine (laws_toBoard.calls k a0_0 a0_1 _ _ l0_2 t349 t350 t351 _ ?side1 ?side2 A13.out).mono ?_); (case side1 => exact zl6); (case side2 => exact HC0_2.out); rintro e w28 ⟨v352, rfl, ho0, hb⟩; refine ⟨_, rfl, ?_⟩; have n0_ := Aside0.mk (Kd.R_elder' zl10 (Kd.R_base ho0) hb); have n1_ := Aside0.mk (Kd.R_lower (Kd.R_new' ho0 (Kd.R_lt zl10)) (below_size zl3)); have n2_ := Aside0.mk (blk_below (g := gb337) (o := .cells #[.int .i64 a0_0, .int .i64 a0_1, .slice A0_2 l0_2.length c0_2] 24 (0, 0)) zl2 hb); have n3_ := Aside0.mk (blk_below (g := gb338) (o := .cells #[.int .i64 a1_0, .int .i64 a1_1] 26 (0, 0)) zl4 hb); have n4_ := Aside0.mk (below_step zl3 hb); clear HO344; clear BK337; clear BK338; clear HB; have HO344 := n0_; have HO353 := n1_; have BK337 := n2_; have BK338 := n3_; have HB := n4_; clear n0_ n1_ n2_ n3_ n4_; (try clear hb); (try clear hb2); (try clear hk); (try clear hi); (try clear ho0); (try clear hna_); (try clear hnb_)) | ((with_reducible refine gate_dst (N := 8) rfl ?_); refine box_event ?hg (N := 8) ?hd (cs := #[.int .i64 0, .int .i64 0, .slice none 0 0]) (t := 30) ?hr ?_; (case hd => rfl); (case hg => rfl); (case hr => first | (go_simp; done) | (go_simp; rfl)); intro gb354 hg w29 hbox hb; have n0_ := Aside0.mk (Kd.R_below zl10 hb); have n1_ := Aside0.mk (Kd.R_below zl13 hb); have n2_ := Aside0.mk (blk_below (g := gb337) (o := .cells #[.int .i64 a0_0, .int .i64 a0_1, .slice A0_2 l0_2.length c0_2] 24 (0, 0)) zl2 hb); have n3_ := Aside0.mk (blk_below (g := gb338) (o := .cells #[.int .i64 a1_0, .int .i64 a1_1] 26 (0, 0)) zl4 hb); have n4_ := Aside0.mk (below_step zl3 hb); have n5_ := Aside0.mk (hbox); have n6_ := Aside0.mk ((by rw [hg]; exact (below_size zl3) : w.heap.size ≤ gb354)); have n7_ := Aside0.mk ((by rw [hg]; exact (below_size zl3) : w.heap.size ≤ gb354)); have n8_ := Aside0.mk ((zl17 : gb337 ≠ gb354)); have n9_ := Aside0.mk ((zl18 : gb354 ≠ gb337)); have n10_ := Aside0.mk ((by rw [hg]; exact Nat.ne_of_lt (blk_lt (g := gb338) (o := .cells #[.int .i64 a1_0, .int .i64 a1_1] 26 (0, 0)) zl4) : gb338 ≠ gb354)); have n11_ := Aside0.mk ((by rw [hg]; exact Nat.ne_of_gt (blk_lt (g := gb338) (o := .cells #[.int .i64 a1_0, .int .i64 a1_1] 26 (0, 0)) zl4) : gb354 ≠ gb338)); clear HO344; clear HO353; clear BK337; clear BK338; clear HB; have HO344 := n0_; have HO353 := n1_; have BK337 := n2_; have BK338 := n3_; have HB := n4_; have BK354 := n5_; have GW354 := n6_; have GE354 := n7_; have NB337_354 := n8_; have NB354_337 := n9_; have NB338_354 := n10_; have NB354_338 := n11_; clear n0_ n1_ n2_ n3_ n4_ n5_ n6_ n7_ n8_ n9_ n10_ n11_; clear hb hbox hg; have hnb30 := NB354_337.out; have hnc30 := NB337_354.out; have hnb31 := NB354_338.out; have hnc31 := NB338_354.out; have hcz32_0 : w29.cell? ⟨gb354, 0, none⟩ = some (.int .i64 0) := (blk_cell BK354.out 0).trans rfl; have hcz32_1 : w29.cell? ⟨gb354, 1, none⟩ = some (.int .i64 0) := (blk_cell BK354.out 1).trans rfl; have hcz32_2 : w29.cell? ⟨gb354, 2, none⟩ = some (.slice none 0 0) := (blk_cell BK354.out 2).trans rfl; have hfz32_0 := blk_frozen BK354.out 0; have hfz32_1 := blk_frozen BK354.out 1; have hfz32_2 := blk_frozen BK354.out 2; obtain ⟨Ao33, co33, eo33⟩ := Kd.R_slice HO353.out; subst eo33))
 have n0_ : Aside0 (Kd.R (Kd.int .i64) 3 (((w29.setCell ⟨gb354, 0, none⟩ (.int .i64 t349)).setCell ⟨gb354, 1, none⟩ (.int .i64 t350)).setCell ⟨gb354, 2, none⟩ (.slice Ao33 t351.length co33)) w.heap.size (fun k_ => some k_ ≠ (.slice Ao33 t351.length co33 : Value).ownBlock) (.slice Ao25 t342.length co25) t342) := ⟨by (with_reducible repeat (first | apply Kd.R_alloc | apply Kd.R_drewN | apply Kd.R_drew)); exact Kd.R_mono (Kd.R_far (p := ⟨gb354, 2, none⟩) (Kd.R_far (p := ⟨gb354, 1, none⟩) (Kd.R_far (p := ⟨gb354, 0, none⟩) (Kd.R_types HO344.out BK354.out (by decide)) (fun _ hk => hk.2) (.int .i64 t349)) (fun _ hk => hk.2) (.int .i64 t350)) (fun _ hk => hk.2) (.slice Ao33 t351.length co33)) (fun _ hk => hk.1.2)⟩
 have n1_ : Aside0 (Kd.R (Kd.int .i64) 3 (((w29.setCell ⟨gb354, 0, none⟩ (.int .i64 t349)).setCell ⟨gb354, 1, none⟩ (.int .i64 t350)).setCell ⟨gb354, 2, none⟩ (.slice Ao33 t351.length co33)) w.heap.size (fun k_ => some k_ ≠ (.slice Ao25 t342.length co25 : Value).ownBlock) (.slice Ao33 t351.length co33) t351) := ⟨by (with_reducible repeat (first | apply Kd.R_alloc | apply Kd.R_drewN | apply Kd.R_drew)); exact Kd.R_mono (Kd.R_far (p := ⟨gb354, 2, none⟩) (Kd.R_far (p := ⟨gb354, 1, none⟩) (Kd.R_far (p := ⟨gb354, 0, none⟩) (Kd.R_types HO353.out BK354.out (by decide)) (fun _ hk => hk.2) (.int .i64 t349)) (fun _ hk => hk.2) (.int .i64 t350)) (fun _ hk => hk.2) (.slice Ao33 t351.length co33)) (fun _ hk => hk.1.2)⟩
 have n2_ : Aside0 ((((w29.setCell ⟨gb354, 0, none⟩ (.int .i64 t349)).setCell ⟨gb354, 1, none⟩ (.int .i64 t350)).setCell ⟨gb354, 2, none⟩ (.slice Ao33 t351.length co33)).heap[gb337]? = some (.cells #[.int .i64 a0_0, .int .i64 a0_1, .slice A0_2 l0_2.length c0_2] 24 (0, 0))) := ⟨by (with_reducible repeat (first | refine blk_drewN ?_ _ | refine blk_drew ?_ | refine blk_alloc ?_ _)); refine blk_far ?_ NB337_354.out _; (with_reducible repeat (first | refine blk_drewN ?_ _ | refine blk_drew ?_ | refine blk_alloc ?_ _)); refine blk_far ?_ NB337_354.out _; (with_reducible repeat (first | refine blk_drewN ?_ _ | refine blk_drew ?_ | refine blk_alloc ?_ _)); refine blk_far ?_ NB337_354.out _; first | exact BK337.out | ((with_reducible repeat (first | refine blk_drewN ?_ _ | refine blk_drew ?_ | refine blk_alloc ?_ _)); exact BK337.out)⟩
 have n3_ : Aside0 ((((w29.setCell ⟨gb354, 0, none⟩ (.int .i64 t349)).setCell ⟨gb354, 1, none⟩ (.int .i64 t350)).setCell ⟨gb354, 2, none⟩ (.slice Ao33 t351.length co33)).heap[gb338]? = some (.cells #[.int .i64 a1_0, .int .i64 a1_1] 26 (0, 0))) := ⟨by (with_reducible repeat (first | refine blk_drewN ?_ _ | refine blk_drew ?_ | refine blk_alloc ?_ _)); refine blk_far ?_ NB338_354.out _; (with_reducible repeat (first | refine blk_drewN ?_ _ | refine blk_drew ?_ | refine blk_alloc ?_ _)); refine blk_far ?_ NB338_354.out _; (with_reducible repeat (first | refine blk_drewN ?_ _ | refine blk_drew ?_ | refine blk_alloc ?_ _)); refine blk_far ?_ NB338_354.out _; first | exact BK338.out | ((with_reducible repeat (first | refine blk_drewN ?_ _ | refine blk_drew ?_ | refine blk_alloc ?_ _)); exact BK338.out)⟩
 have n4_ : Aside0 ((((w29.setCell ⟨gb354, 0, none⟩ (.int .i64 t349)).setCell ⟨gb354, 1, none⟩ (.int .i64 t350)).setCell ⟨gb354, 2, none⟩ (.slice Ao33 t351.length co33)).heap[gb354]? = some (.cells #[.int .i64 t349, .int .i64 t350, .slice Ao33 t351.length co33] 30 (0, 0))) := ⟨by (with_reducible repeat (first | refine blk_drewN ?_ _ | refine blk_drew ?_ | refine blk_alloc ?_ _)); refine blk_put (cs := #[.int .i64 t349, .int .i64 t350, .slice none 0 0]) ?_ 2 _ rfl; (with_reducible repeat (first | refine blk_drewN ?_ _ | refine blk_drew ?_ | refine blk_alloc ?_ _)); refine blk_put (cs := #[.int .i64 t349, .int .i64 0, .slice none 0 0]) ?_ 1 _ rfl; (with_reducible repeat (first | refine blk_drewN ?_ _ | refine blk_drew ?_ | refine blk_alloc ?_ _)); refine blk_put (cs := #[.int .i64 0, .int .i64 0, .slice none 0 0]) ?_ 0 _ rfl; first | exact BK354.out | ((with_reducible repeat (first | refine blk_drewN ?_ _ | refine blk_drew ?_ | refine blk_alloc ?_ _)); exact BK354.out)⟩
 have n5_ : Aside0 (Below w.heap.size w (((w29.setCell ⟨gb354, 0, none⟩ (.int .i64 t349)).setCell ⟨gb354, 1, none⟩ (.int .i64 t350)).setCell ⟨gb354, 2, none⟩ (.slice Ao33 t351.length co33))) := ⟨zl1⟩
 (try clear HO344)
 (try clear HO353)
 (try clear BK337)
 (try clear BK338)
 (try clear BK354)
 (try clear HB)
 generalize (((w29.setCell ⟨gb354, 0, none⟩ (.int .i64 t349)).setCell ⟨gb354, 1, none⟩ (.int .i64 t350)).setCell ⟨gb354, 2, none⟩ (.slice Ao33 t351.length co33)) = w34 at n0_ n1_ n2_ n3_ n4_ n5_ ⊢
 have HO344 := n0_
 have HO353 := n1_
 have BK337 := n2_
 have BK338 := n3_
 have BK354 := n4_
 have HB := n5_
 clear n0_ n1_ n2_ n3_ n4_ n5_
 have n0_ := Aside0.mk (Kd.R_drew HO344.out)
 have n1_ := Aside0.mk (Kd.R_drew HO353.out)
 have n2_ := Aside0.mk (blk_drew BK337.out)
 have n3_ := Aside0.mk (blk_drew BK338.out)
 have n4_ := Aside0.mk (blk_drew BK354.out)
 have n5_ := Aside0.mk (below_drew1 HB.out)
 clear HO344
 clear HO353
 clear BK337
 clear BK338
 clear BK354
 clear HB
 have HO344 := n0_
 have HO353 := n1_
 have BK337 := n2_
 have BK338 := n3_
 have BK354 := n4_
 have HB := n5_
 clear n0_ n1_ n2_ n3_ n4_ n5_
 refine start_ (n := 9) (S := fun w' => w'.cell? ⟨gb354, 0, none⟩ = some (.int .i64 t349) ∧ w'.cell? ⟨gb354, 1, none⟩ = some (.int .i64 t350) ∧ w'.cell? ⟨gb354, 2, none⟩ = some (.slice Ao33 t351.length co33) ∧ w'.cell? ⟨gb338, 0, none⟩ = some (.int .i64 a1_0) ∧ w'.cell? ⟨gb338, 1, none⟩ = some (.int .i64 a1_1)) (ds := []) #[false, false, false, false, false, false, false, false, false] (by kernel_rfl) rfl rfl ⟨(blk_cell BK354.out 0).trans rfl, (blk_cell BK354.out 1).trans rfl, (blk_cell BK354.out 2).trans rfl, (blk_cell BK338.out 0).trans rfl, (blk_cell BK338.out 1).trans rfl⟩ (fun hHeld => ?_); refine with_tabW laws_FnExactMostPairs.tab7 laws_FnExactMostPairs.bits7 (fun HT_ HW_ => ?_)
 generalize w34.drew = w35 at HO344 HO353 BK337 BK338 BK354 HB hHeld ⊢
 refine take_ (i := 0) (N := some 27) (v := ?_) (a' := ?_) #[true, false, false, false, false, false, false, false, false] rfl rfl (take_ofW HT_.out HW_.out (by kernel_rfl)) (fun _ _ _ h => h) (Or.inl ⟨by rfl, ?_⟩) hHeld ?_ ?_
 rotate_left
 ·rintro w' ⟨s0, s1, s2, s3, s4⟩
  go_simp
  with_reducible rfl
 rotate_left
 ·simp only [Act.put, List.setIfInBounds_toArray, List.set_cons_zero, List.set_cons_succ, i64_w, i32_w]
  rfl
 refine take_ (i := 1) (N := some 28) (v := ?_) (a' := ?_) #[true, true, false, false, false, false, false, false, false] rfl rfl (take_ofW HT_.out HW_.out (by kernel_rfl)) (fun _ _ _ h => h) (Or.inl ⟨by rfl, ?_⟩) hHeld ?_ ?_
 rotate_left
 ·rintro w' ⟨s0, s1, s2, s3, s4⟩
  go_simp
  with_reducible rfl
 rotate_left
 ·simp only [Act.put, List.setIfInBounds_toArray, List.set_cons_zero, List.set_cons_succ, i64_w, i32_w]
  rfl
 refine one_ (i := 2) (N := some 29) #[true, true, true, false, false, false, false, false, false] rfl rfl (one_of HT_.out (by kernel_rfl)) (by decide) (fun K hK => ?_)
 refine goes_ Try.func8 (by kernel_rfl) rfl #[.agg #[.int .i64 a1_0, .int .i64 a1_1]] (by rfl) rfl rfl zl5 ?_
 with_reducible refine (laws_toLeaper.calls a1_0 a1_1 t355 t356 _ A14.out).mono ?_
 rintro e w36 ⟨rfl, hb⟩
 refine ⟨_, rfl, ?_⟩
 have n0_ := Aside0.mk (Kd.R_below zl10 hb)
 have n1_ := Aside0.mk (Kd.R_below zl13 hb)
 have n2_ := Aside0.mk (blk_below (g := gb337) (o := .cells #[.int .i64 a0_0, .int .i64 a0_1, .slice A0_2 l0_2.length c0_2] 24 (0, 0)) zl2 hb)
 have n3_ := Aside0.mk (blk_below (g := gb338) (o := .cells #[.int .i64 a1_0, .int .i64 a1_1] 26 (0, 0)) zl4 hb)
 have n4_ := Aside0.mk (blk_below (g := gb354) (o := .cells #[.int .i64 t349, .int .i64 t350, .slice Ao33 t351.length co33] 30 (0, 0)) zl8 hb)
 have n5_ := Aside0.mk (below_step zl1 hb)
 clear HO344
 clear HO353
 clear BK337
 clear BK338
 clear BK354
 clear HB
 have HO344 := n0_
 have HO353 := n1_
 have BK337 := n2_
 have BK338 := n3_
 have BK354 := n4_
 have HB := n5_
 clear n0_ n1_ n2_ n3_ n4_ n5_
 (try clear hb)
 (try clear hb2)
 (try clear hk)
 (try clear hi)
 (try clear hna_)
 (try clear hnb_)
 refine hK.out _ _ ⟨(blk_cell BK354.out 0).trans rfl, (blk_cell BK354.out 1).trans rfl, (blk_cell BK354.out 2).trans rfl, (blk_cell BK338.out 0).trans rfl, (blk_cell BK338.out 1).trans rfl⟩ (fun hHeld => ?_)
 clear hK K
 refine norm_ (a' := ?_) ?_ ?_
 rotate_left
 ·show Act.put _ (some 29) _ = _
  simp only [Act.put, List.setIfInBounds_toArray, List.set_cons_zero, List.set_cons_succ, i64_w, i32_w]
  rfl
 refine one_ (i := 3) (N := some 30) #[true, true, true, true, false, false, false, false, false] rfl rfl (one_of HT_.out (by kernel_rfl)) (by decide) (fun K hK => ?_)
 refine goes_ Try.func9 (by kernel_rfl) rfl #[.agg #[.int .i64 t349, .int .i64 t350, .slice Ao33 t351.length co33], .agg #[.int .i64 t355, .int .i64 t356]] (by rfl) rfl rfl zl5 ?_
 with_reducible refine (impl_MostPairs.calls k t349 t350 _ _ t351 t355 t356 t357 t358 _ ?side1 ?side2 A15.out).mono ?_
 (case side1 => repeat (first | exact (Kd.R_reads' HO353.out).2.2 | (with_reducible refine Kd.C_alloc ?_ _) | (with_reducible refine Kd.C_drewN ?_ _) | (with_reducible refine Kd.C_drew ?_)))
 (case side2 => exact (Kd.R_reads' HO353.out).2.1)
 rintro e w37 ⟨rfl, hb⟩
 refine ⟨_, rfl, ?_⟩
 have n0_ := Aside0.mk (Kd.R_below zl10 hb)
 have n1_ := Aside0.mk (Kd.R_below zl13 hb)
 have n2_ := Aside0.mk (blk_below (g := gb337) (o := .cells #[.int .i64 a0_0, .int .i64 a0_1, .slice A0_2 l0_2.length c0_2] 24 (0, 0)) zl2 hb)
 have n3_ := Aside0.mk (blk_below (g := gb338) (o := .cells #[.int .i64 a1_0, .int .i64 a1_1] 26 (0, 0)) zl4 hb)
 have n4_ := Aside0.mk (blk_below (g := gb354) (o := .cells #[.int .i64 t349, .int .i64 t350, .slice Ao33 t351.length co33] 30 (0, 0)) zl8 hb)
 have n5_ := Aside0.mk (below_step zl1 hb)
 clear HO344
 clear HO353
 clear BK337
 clear BK338
 clear BK354
 clear HB
 have HO344 := n0_
 have HO353 := n1_
 have BK337 := n2_
 have BK338 := n3_
 have BK354 := n4_
 have HB := n5_
 clear n0_ n1_ n2_ n3_ n4_ n5_
 (try clear hb)
 (try clear hb2)
 (try clear hk)
 (try clear hi)
 (try clear hna_)
 (try clear hnb_)
 refine hK.out _ _ ⟨(blk_cell BK354.out 0).trans rfl, (blk_cell BK354.out 1).trans rfl, (blk_cell BK354.out 2).trans rfl, (blk_cell BK338.out 0).trans rfl, (blk_cell BK338.out 1).trans rfl⟩ (fun hHeld => ?_)
 clear hK K
 refine norm_ (a' := ?_) ?_ ?_
 rotate_left
 ·show Act.put _ (some 30) _ = _
  simp only [Act.put, List.setIfInBounds_toArray, List.set_cons_zero, List.set_cons_succ, i64_w, i32_w]
  rfl
 refine pure_ (i := 4) (N := some 26) (v := ?_) (a' := ?_) #[true, true, true, true, true, false, false, false, false] rfl rfl (any_of HT_.out (by kernel_rfl)) (fun _ _ _ h => h) (Or.inl ⟨by rfl, ?_⟩) ?_ ?_
 rotate_left
 ·intro w'
  go_simp
  with_reducible rfl
 rotate_left
 ·simp only [Act.put, List.setIfInBounds_toArray, List.set_cons_zero, List.set_cons_succ, i64_w, i32_w]
  rfl
 refine pure_ (i := 5) (N := some 31) (v := ?_) (a' := ?_) #[true, true, true, true, true, true, false, false, false] rfl rfl (any_of HT_.out (by kernel_rfl)) (fun _ _ _ h => h) (Or.inl ⟨by rfl, ?_⟩) ?_ ?_
 rotate_left
 ·intro w'
  go_simp
  with_reducible rfl
 rotate_left
 ·simp only [Act.put, List.setIfInBounds_toArray, List.set_cons_zero, List.set_cons_succ, i64_w, i32_w]
  rfl
 refine pure_ (i := 6) (N := some 32) (v := ?_) (a' := ?_) #[true, true, true, true, true, true, true, false, false] rfl rfl (any_of HT_.out (by kernel_rfl)) (fun _ _ _ h => h) (Or.inl ⟨by rfl, ?_⟩) ?_ ?_
 rotate_left
 ·intro w'
  go_simp
  with_reducible rfl
 rotate_left
 ·simp only [Act.put, List.setIfInBounds_toArray, List.set_cons_zero, List.set_cons_succ, i64_w, i32_w]
  rfl
 refine pure_ (i := 7) (N := some 9) (v := ?_) (a' := ?_) #[true, true, true, true, true, true, true, true, false] rfl rfl (any_of HT_.out (by kernel_rfl)) (fun _ _ _ h => h) (Or.inl ⟨by rfl, ?_⟩) ?_ ?_
 rotate_left
 ·intro w'
  go_simp
  with_reducible rfl
 rotate_left
 ·simp only [Act.put, List.setIfInBounds_toArray, List.set_cons_zero, List.set_cons_succ, i64_w, i32_w]
  rfl
 refine pure_ (i := 8) (N := some 10) (v := ?_) (a' := ?_) #[true, true, true, true, true, true, true, true, true] rfl rfl (any_of HT_.out (by kernel_rfl)) (fun _ _ _ h => h) (Or.inl ⟨by rfl, ?_⟩) ?_ ?_
 rotate_left
 ·intro w'
  go_simp
  with_reducible rfl
 rotate_left
 ·simp only [Act.put, List.setIfInBounds_toArray, List.set_cons_zero, List.set_cons_succ, i64_w, i32_w]
  rfl
 refine done_ (done_of HT_.out (by kernel_rfl)) ?_
 go_upto_region 8 with (fail)
 go_cut [40] (fun v40 wc => ∃ (kq : Nat) (x40_15 : Bool), v40 = .bool x40_15 ∧ Aside0 (laws_FnExactMostPairs.j0 kq x40_15 a0_0 a0_1 l0_2 t349 t350 t351 = some r) ∧ Aside0 (kq ≤ k) ∧ Aside0 (Kd.R (Kd.int .i64) 3 wc w.heap.size (fun _ => True) (.slice Ao33 t351.length co33) t351) ∧ Aside0 (wc.heap[gb337]? = some (.cells #[.int .i64 a0_0, .int .i64 a0_1, (.slice A0_2 l0_2.length c0_2)] 24 (0, 0))) ∧ Aside0 (wc.heap[gb338]? = some (.cells #[.int .i64 a1_0, .int .i64 a1_1] 26 (0, 0))) ∧ Aside0 (wc.heap[gb354]? = some (.cells #[.int .i64 t349, .int .i64 t350, (.slice Ao33 t351.length co33)] 30 (0, 0))) ∧ Aside0 (Below w.heap.size w wc))
 case first =>
  have H := HC16.out
  clear HC16
  by_cases c38 : t357 = t347
  rotate_left
  ·rw [if_neg c38] at H
   have c38b0 : (t357 == t347) = false := beq_eq_false_iff_ne.mpr c38
   have c38b1 : (t357 != t347) = true := bne_iff_ne.mpr c38
   (first | rw [c38b0] | (simp only [i64_w, i32_w]; rw [c38b0]) | skip)
   have H' := Aside0.mk H
   clear H
   go_wp2
   go_meet
   case rel => exact ⟨_, (true), (by first | rfl | (simp; done) | (simp [*]; done)), H', ⟨by first | omega | exact Nat.le_refl _⟩, ⟨zl16⟩, ⟨zl2⟩, ⟨zl4⟩, ⟨zl8⟩, ⟨zl1⟩⟩
  rw [if_pos c38] at H
  have c38b0 : (t357 == t347) = true := beq_iff_eq.mpr c38
  have c38b1 : (t357 != t347) = false := bne_eq_false_iff_eq.mpr c38
  clear c38
  (first | rw [c38b0] | (simp only [i64_w, i32_w]; rw [c38b0]) | skip)
  have H' := Aside0.mk H
  clear H
  go_wp2
  go_meet
  case rel => exact ⟨_, ((t358 != t348)), (by first | rfl | (simp; done) | (simp [*]; done)), H', ⟨by first | omega | exact Nat.le_refl _⟩, ⟨zl16⟩, ⟨zl2⟩, ⟨zl4⟩, ⟨zl8⟩, ⟨zl1⟩⟩
 case rest =>
  clear HC16
  try clear c1; try clear p2; try clear c3; try clear c4; try clear c4b0; try clear c5; try clear c6; try clear c7; try clear c8; try clear c9; try clear c19; try clear c30; try clear c31; try clear c38; try clear c38b0; try clear c38b1; try clear hcz20_0; try clear hcz20_1; try clear hcz20_2; try clear hcz27_0; try clear hcz27_1; try clear hcz27_2; try clear hcz32_0; try clear hcz32_1; try clear hcz32_2; try clear hcz8_0; try clear hcz8_1; try clear hcz8_2; try clear hfz20_0; try clear hfz20_1; try clear hfz20_2; try clear hfz27_0; try clear hfz27_1; try clear hfz27_2; try clear hfz32_0; try clear hfz32_1
  try clear hfz32_2; try clear hfz8_0; try clear hfz8_1; try clear hfz8_2
  obtain ⟨kq, x40_15, rfl, HA, HJ15, HO_355002, BK337, BK338, BK354, HB⟩ := hcut
  cases kq with
  | zero => exact absurd HA.out (by simp [laws_FnExactMostPairs.j0])
  | succ kj15 =>
   have H := HA.out
   clear HA
   simp only [laws_FnExactMostPairs.j0] at H
   by_cases c39 : x40_15 = true
   ·subst c39
    have H1 : (some false) = some r := by rw [if_pos rfl] at H; exact H
    clear H
    have H := H1
    clear H1
    obtain rfl := Option.some.inj H
    go_wp2
    go_ret
    exact ⟨zl12, zl1⟩
   replace c39 := Bool.eq_false_iff.mpr c39
   subst c39
   have H1 : ((laws_toBoard.f kj15 a0_0 a0_1 l0_2).bind fun bt359 => ((laws_eqBoard.f kj15 t349 t350 t351 bt359.1 bt359.2.1 bt359.2.2).bind fun t364 => (if t364 = true then (some true) else (some false)))) = some r := by rw [if_neg (show ¬ (false = true) by decide)] at H; exact H
   clear H
   have H := H1
   clear H1
   replace H := Option.bind_eq_some_iff.mp H
   obtain ⟨⟨t359, t360, t361⟩, A400, H⟩ := H
   replace H : ((laws_eqBoard.f kj15 t349 t350 t351 t359 t360 t361).bind fun t364 => (if t364 = true then (some true) else (some false))) = some r := H
   have A40 := Aside0.mk A400
   clear A400
   replace H := Option.bind_eq_some_iff.mp H
   obtain ⟨t364, A410, H⟩ := H
   replace H : (if t364 = true then (some true) else (some false)) = some r := H
   have A41 := Aside0.mk A410
   clear A410
   by_cases c42 : t364 = true
   ·subst c42
    have H1 : (some true) = some r := by rw [if_pos rfl] at H; exact H
    clear H
    have H := H1
    clear H1
    obtain rfl := Option.some.inj H
    try go_wp2
    have n0_ := Aside0.mk (Kd.R_drew HO_355002.out)
    have n1_ := Aside0.mk (blk_drew BK337.out)
    have n2_ := Aside0.mk (blk_drew BK338.out)
    have n3_ := Aside0.mk (blk_drew BK354.out)
    have n4_ := Aside0.mk (below_drew1 HB.out)
    clear HO_355002
    clear BK337
    clear BK338
    clear BK354
    clear HB
    have HO_355002 := n0_
    have BK337 := n1_
    have BK338 := n2_
    have BK354 := n3_
    have HB := n4_
    clear n0_ n1_ n2_ n3_ n4_
    refine start_ (n := 5) (S := fun w' => w'.cell? ⟨gb354, 0, none⟩ = some (.int .i64 t349) ∧ w'.cell? ⟨gb354, 1, none⟩ = some (.int .i64 t350) ∧ w'.cell? ⟨gb354, 2, none⟩ = some (.slice Ao33 t351.length co33) ∧ w'.cell? ⟨gb337, 0, none⟩ = some (.int .i64 a0_0) ∧ w'.cell? ⟨gb337, 1, none⟩ = some (.int .i64 a0_1) ∧ w'.cell? ⟨gb337, 2, none⟩ = some (.slice A0_2 l0_2.length c0_2)) (ds := []) #[false, false, false, false, false] (by kernel_rfl) rfl rfl ⟨(blk_cell BK354.out 0).trans rfl, (blk_cell BK354.out 1).trans rfl, (blk_cell BK354.out 2).trans rfl, (blk_cell BK337.out 0).trans rfl, (blk_cell BK337.out 1).trans rfl, (blk_cell BK337.out 2).trans rfl⟩ (fun hHeld => ?_)
    generalize wc.drew = w43 at HO_355002 BK337 BK338 BK354 HB hHeld ⊢
    refine take_ (i := 0) (N := some 41) (v := ?_) (a' := ?_) #[true, false, false, false, false] rfl rfl (by kernel_rfl) (fun _ _ _ h => h) (Or.inl ⟨by rfl, ?_⟩) hHeld ?_ ?_
    rotate_left
    ·rintro w' ⟨s0, s1, s2, s3, s4, s5⟩
     go_simp
     with_reducible rfl
    rotate_left
    ·simp only [Act.put, List.setIfInBounds_toArray, List.set_cons_zero, List.set_cons_succ, i64_w, i32_w]
     rfl
    refine take_ (i := 1) (N := some 42) (v := ?_) (a' := ?_) #[true, true, false, false, false] rfl rfl (by kernel_rfl) (fun _ _ _ h => h) (Or.inl ⟨by rfl, ?_⟩) hHeld ?_ ?_
    rotate_left
    ·rintro w' ⟨s0, s1, s2, s3, s4, s5⟩
     go_simp
     with_reducible rfl
    rotate_left
    ·simp only [Act.put, List.setIfInBounds_toArray, List.set_cons_zero, List.set_cons_succ, i64_w, i32_w]
     rfl
    refine one_ (i := 2) (N := some 43) #[true, true, true, false, false] rfl rfl (by kernel_rfl) (by decide) (fun K hK => ?_)
    refine goes_ Try.func7 (by kernel_rfl) rfl #[.agg #[.int .i64 a0_0, .int .i64 a0_1, .slice A0_2 l0_2.length c0_2]] (by rfl) rfl rfl zl5 ?_
    with_reducible refine (laws_toBoard.calls kj15 a0_0 a0_1 _ _ l0_2 t359 t360 t361 _ ?side1 ?side2 A40.out).mono ?_
    (case side1 => exact zl6)
    (case side2 => exact HC0_2.out)
    rintro e w44 ⟨v362, rfl, ho0, hb⟩
    refine ⟨_, rfl, ?_⟩
    have n0_ := Aside0.mk (Kd.R_elder' zl11 (Kd.R_base ho0) hb)
    have n1_ := Aside0.mk (Kd.R_lower (Kd.R_new' ho0 (Kd.R_lt zl11)) (below_size zl1))
    have n2_ := Aside0.mk (blk_below (g := gb337) (o := .cells #[.int .i64 a0_0, .int .i64 a0_1, .slice A0_2 l0_2.length c0_2] 24 (0, 0)) zl2 hb)
    have n3_ := Aside0.mk (blk_below (g := gb338) (o := .cells #[.int .i64 a1_0, .int .i64 a1_1] 26 (0, 0)) zl4 hb)
    have n4_ := Aside0.mk (blk_below (g := gb354) (o := .cells #[.int .i64 t349, .int .i64 t350, .slice Ao33 t351.length co33] 30 (0, 0)) zl8 hb)
    have n5_ := Aside0.mk (below_step zl1 hb)
    clear HO_355002
    clear BK337
    clear BK338
    clear BK354
    clear HB
    have HO_355002 := n0_
    have HO363 := n1_
    have BK337 := n2_
    have BK338 := n3_
    have BK354 := n4_
    have HB := n5_
    clear n0_ n1_ n2_ n3_ n4_ n5_
    (try clear hb)
    (try clear hb2)
    (try clear hk)
    (try clear hi)
    (try clear ho0)
    (try clear hna_)
    (try clear hnb_)
    obtain ⟨Ao45, co45, eo45⟩ := Kd.R_slice HO363.out
    (first | subst eo45 | (injection eo45 with f1_ f2_ f3_; have f4_ := f1_.symm; have f5_ := f3_.symm; clear f1_ f2_ f3_; subst f4_; subst f5_))
    refine hK.out _ _ ⟨(blk_cell BK354.out 0).trans rfl, (blk_cell BK354.out 1).trans rfl, (blk_cell BK354.out 2).trans rfl, (blk_cell BK337.out 0).trans rfl, (blk_cell BK337.out 1).trans rfl, (blk_cell BK337.out 2).trans rfl⟩ (fun hHeld => ?_)
    clear hK K
    refine norm_ (a' := ?_) ?_ ?_
    rotate_left
    ·show Act.put _ (some 43) _ = _
     simp only [Act.put, List.setIfInBounds_toArray, List.set_cons_zero, List.set_cons_succ, i64_w, i32_w]
     rfl
    refine one_ (i := 3) (N := some 44) #[true, true, true, true, false] rfl rfl (by kernel_rfl) (by decide) (fun K hK => ?_)
    refine goes_ Try.func10 (by kernel_rfl) rfl #[.agg #[.int .i64 t349, .int .i64 t350, .slice Ao33 t351.length co33], .agg #[.int .i64 t359, .int .i64 t360, .slice Ao45 t361.length co45]] (by rfl) rfl rfl zl5 ?_
    with_reducible refine (laws_eqBoard.calls kj15 t349 t350 _ _ t351 t359 t360 _ _ t361 true _ ?side1 ?side2 ?side3 ?side4 A41.out).mono ?_
    (case side1 => exact zl14)
    (case side2 => exact (Kd.R_reads' HO_355002.out).2.1)
    (case side3 => exact zl15)
    (case side4 => exact (Kd.R_reads' HO363.out).2.1)
    rintro e w46 ⟨rfl, hb⟩
    refine ⟨_, rfl, ?_⟩
    have n0_ := Aside0.mk (Kd.R_below zl11 hb)
    have n1_ := Aside0.mk (Kd.R_below (by first | exact HO363.out | ((with_reducible repeat (first | apply Kd.R_alloc | apply Kd.R_drewN | apply Kd.R_drew)); exact HO363.out)) hb)
    have n2_ := Aside0.mk (blk_below (g := gb337) (o := .cells #[.int .i64 a0_0, .int .i64 a0_1, .slice A0_2 l0_2.length c0_2] 24 (0, 0)) zl2 hb)
    have n3_ := Aside0.mk (blk_below (g := gb338) (o := .cells #[.int .i64 a1_0, .int .i64 a1_1] 26 (0, 0)) zl4 hb)
    have n4_ := Aside0.mk (blk_below (g := gb354) (o := .cells #[.int .i64 t349, .int .i64 t350, .slice Ao33 t351.length co33] 30 (0, 0)) zl8 hb)
    have n5_ := Aside0.mk (below_step zl1 hb)
    clear HO_355002
    clear HO363
    clear BK337
    clear BK338
    clear BK354
    clear HB
    have HO_355002 := n0_
    have HO363 := n1_
    have BK337 := n2_
    have BK338 := n3_
    have BK354 := n4_
    have HB := n5_
    clear n0_ n1_ n2_ n3_ n4_ n5_
    (try clear hb)
    (try clear hb2)
    (try clear hk)
    (try clear hi)
    (try clear hna_)
    (try clear hnb_)
    refine hK.out _ _ ⟨(blk_cell BK354.out 0).trans rfl, (blk_cell BK354.out 1).trans rfl, (blk_cell BK354.out 2).trans rfl, (blk_cell BK337.out 0).trans rfl, (blk_cell BK337.out 1).trans rfl, (blk_cell BK337.out 2).trans rfl⟩ (fun hHeld => ?_)
    clear hK K
    refine norm_ (a' := ?_) ?_ ?_
    rotate_left
    ·show Act.put _ (some 44) _ = _
     simp only [Act.put, List.setIfInBounds_toArray, List.set_cons_zero, List.set_cons_succ, i64_w, i32_w]
     rfl
    refine pure_ (i := 4) (N := some 45) (v := ?_) (a' := ?_) #[true, true, true, true, true] rfl rfl (by kernel_rfl) (fun _ _ _ h => h) (Or.inl ⟨by rfl, ?_⟩) ?_ ?_
    rotate_left
    ·intro w'
     go_simp
     with_reducible rfl
    rotate_left
    ·simp only [Act.put, List.setIfInBounds_toArray, List.set_cons_zero, List.set_cons_succ, i64_w, i32_w]
     rfl
    refine done_ (by kernel_rfl) ?_
    try go_wp2
    go_ret
    exact ⟨zl12, zl1⟩
   replace c42 := Bool.eq_false_iff.mpr c42
   subst c42
   have H1 : (some false) = some r := by rw [if_neg (show ¬ (false = true) by decide)] at H; exact H
   clear H
   have H := H1
   clear H1
   obtain rfl := Option.some.inj H
   try go_wp2
   have n0_ := Aside0.mk (Kd.R_drew HO_355002.out)
   have n1_ := Aside0.mk (blk_drew BK337.out)
   have n2_ := Aside0.mk (blk_drew BK338.out)
   have n3_ := Aside0.mk (blk_drew BK354.out)
   have n4_ := Aside0.mk (below_drew1 HB.out)
   clear HO_355002
   clear BK337
   clear BK338
   clear BK354
   clear HB
   have HO_355002 := n0_
   have BK337 := n1_
   have BK338 := n2_
   have BK354 := n3_
   have HB := n4_
   clear n0_ n1_ n2_ n3_ n4_
   refine start_ (n := 5) (S := fun w' => w'.cell? ⟨gb354, 0, none⟩ = some (.int .i64 t349) ∧ w'.cell? ⟨gb354, 1, none⟩ = some (.int .i64 t350) ∧ w'.cell? ⟨gb354, 2, none⟩ = some (.slice Ao33 t351.length co33) ∧ w'.cell? ⟨gb337, 0, none⟩ = some (.int .i64 a0_0) ∧ w'.cell? ⟨gb337, 1, none⟩ = some (.int .i64 a0_1) ∧ w'.cell? ⟨gb337, 2, none⟩ = some (.slice A0_2 l0_2.length c0_2)) (ds := []) #[false, false, false, false, false] (by kernel_rfl) rfl rfl ⟨(blk_cell BK354.out 0).trans rfl, (blk_cell BK354.out 1).trans rfl, (blk_cell BK354.out 2).trans rfl, (blk_cell BK337.out 0).trans rfl, (blk_cell BK337.out 1).trans rfl, (blk_cell BK337.out 2).trans rfl⟩ (fun hHeld => ?_)
   generalize wc.drew = w47 at HO_355002 BK337 BK338 BK354 HB hHeld ⊢
   refine take_ (i := 0) (N := some 41) (v := ?_) (a' := ?_) #[true, false, false, false, false] rfl rfl (by kernel_rfl) (fun _ _ _ h => h) (Or.inl ⟨by rfl, ?_⟩) hHeld ?_ ?_
   rotate_left
   ·rintro w' ⟨s0, s1, s2, s3, s4, s5⟩
    go_simp
    with_reducible rfl
   rotate_left
   ·simp only [Act.put, List.setIfInBounds_toArray, List.set_cons_zero, List.set_cons_succ, i64_w, i32_w]
    rfl
   refine take_ (i := 1) (N := some 42) (v := ?_) (a' := ?_) #[true, true, false, false, false] rfl rfl (by kernel_rfl) (fun _ _ _ h => h) (Or.inl ⟨by rfl, ?_⟩) hHeld ?_ ?_
   rotate_left
   ·rintro w' ⟨s0, s1, s2, s3, s4, s5⟩
    go_simp
    with_reducible rfl
   rotate_left
   ·simp only [Act.put, List.setIfInBounds_toArray, List.set_cons_zero, List.set_cons_succ, i64_w, i32_w]
    rfl
   refine one_ (i := 2) (N := some 43) #[true, true, true, false, false] rfl rfl (by kernel_rfl) (by decide) (fun K hK => ?_)
   refine goes_ Try.func7 (by kernel_rfl) rfl #[.agg #[.int .i64 a0_0, .int .i64 a0_1, .slice A0_2 l0_2.length c0_2]] (by rfl) rfl rfl zl5 ?_
   with_reducible refine (laws_toBoard.calls kj15 a0_0 a0_1 _ _ l0_2 t359 t360 t361 _ ?side1 ?side2 A40.out).mono ?_
   (case side1 => exact zl6)
   (case side2 => exact HC0_2.out)
   rintro e w48 ⟨v362, rfl, ho0, hb⟩
   refine ⟨_, rfl, ?_⟩
   have n0_ := Aside0.mk (Kd.R_elder' zl11 (Kd.R_base ho0) hb)
   have n1_ := Aside0.mk (Kd.R_lower (Kd.R_new' ho0 (Kd.R_lt zl11)) (below_size zl1))
   have n2_ := Aside0.mk (blk_below (g := gb337) (o := .cells #[.int .i64 a0_0, .int .i64 a0_1, .slice A0_2 l0_2.length c0_2] 24 (0, 0)) zl2 hb)
   have n3_ := Aside0.mk (blk_below (g := gb338) (o := .cells #[.int .i64 a1_0, .int .i64 a1_1] 26 (0, 0)) zl4 hb)
   have n4_ := Aside0.mk (blk_below (g := gb354) (o := .cells #[.int .i64 t349, .int .i64 t350, .slice Ao33 t351.length co33] 30 (0, 0)) zl8 hb)
   have n5_ := Aside0.mk (below_step zl1 hb)
   clear HO_355002
   clear BK337
   clear BK338
   clear BK354
   clear HB
   have HO_355002 := n0_
   have HO363 := n1_
   have BK337 := n2_
   have BK338 := n3_
   have BK354 := n4_
   have HB := n5_
   clear n0_ n1_ n2_ n3_ n4_ n5_
   (try clear hb)
   (try clear hb2)
   (try clear hk)
   (try clear hi)
   (try clear ho0)
   (try clear hna_)
   (try clear hnb_)
   obtain ⟨Ao49, co49, eo49⟩ := Kd.R_slice HO363.out
   (first | subst eo49 | (injection eo49 with f1_ f2_ f3_; have f4_ := f1_.symm; have f5_ := f3_.symm; clear f1_ f2_ f3_; subst f4_; subst f5_))
   refine hK.out _ _ ⟨(blk_cell BK354.out 0).trans rfl, (blk_cell BK354.out 1).trans rfl, (blk_cell BK354.out 2).trans rfl, (blk_cell BK337.out 0).trans rfl, (blk_cell BK337.out 1).trans rfl, (blk_cell BK337.out 2).trans rfl⟩ (fun hHeld => ?_)
   clear hK K
   refine norm_ (a' := ?_) ?_ ?_
   rotate_left
   ·show Act.put _ (some 43) _ = _
    simp only [Act.put, List.setIfInBounds_toArray, List.set_cons_zero, List.set_cons_succ, i64_w, i32_w]
    rfl
   refine one_ (i := 3) (N := some 44) #[true, true, true, true, false] rfl rfl (by kernel_rfl) (by decide) (fun K hK => ?_)
   refine goes_ Try.func10 (by kernel_rfl) rfl #[.agg #[.int .i64 t349, .int .i64 t350, .slice Ao33 t351.length co33], .agg #[.int .i64 t359, .int .i64 t360, .slice Ao49 t361.length co49]] (by rfl) rfl rfl zl5 ?_
   with_reducible refine (laws_eqBoard.calls kj15 t349 t350 _ _ t351 t359 t360 _ _ t361 false _ ?side1 ?side2 ?side3 ?side4 A41.out).mono ?_
   (case side1 => exact zl14)
   (case side2 => exact (Kd.R_reads' HO_355002.out).2.1)
   (case side3 => exact zl15)
   (case side4 => exact (Kd.R_reads' HO363.out).2.1)
   rintro e w50 ⟨rfl, hb⟩
   refine ⟨_, rfl, ?_⟩
   have n0_ := Aside0.mk (Kd.R_below zl11 hb)
   have n1_ := Aside0.mk (Kd.R_below (by first | exact HO363.out | ((with_reducible repeat (first | apply Kd.R_alloc | apply Kd.R_drewN | apply Kd.R_drew)); exact HO363.out)) hb)
   have n2_ := Aside0.mk (blk_below (g := gb337) (o := .cells #[.int .i64 a0_0, .int .i64 a0_1, .slice A0_2 l0_2.length c0_2] 24 (0, 0)) zl2 hb)
   have n3_ := Aside0.mk (blk_below (g := gb338) (o := .cells #[.int .i64 a1_0, .int .i64 a1_1] 26 (0, 0)) zl4 hb)
   have n4_ := Aside0.mk (blk_below (g := gb354) (o := .cells #[.int .i64 t349, .int .i64 t350, .slice Ao33 t351.length co33] 30 (0, 0)) zl8 hb)
   have n5_ := Aside0.mk (below_step zl1 hb)
   clear HO_355002
   clear HO363
   clear BK337
   clear BK338
   clear BK354
   clear HB
   have HO_355002 := n0_
   have HO363 := n1_
   have BK337 := n2_
   have BK338 := n3_
   have BK354 := n4_
   have HB := n5_
   clear n0_ n1_ n2_ n3_ n4_ n5_
   (try clear hb)
   (try clear hb2)
   (try clear hk)
   (try clear hi)
   (try clear hna_)
   (try clear hnb_)
   refine hK.out _ _ ⟨(blk_cell BK354.out 0).trans rfl, (blk_cell BK354.out 1).trans rfl, (blk_cell BK354.out 2).trans rfl, (blk_cell BK337.out 0).trans rfl, (blk_cell BK337.out 1).trans rfl, (blk_cell BK337.out 2).trans rfl⟩ (fun hHeld => ?_)
   clear hK K
   refine norm_ (a' := ?_) ?_ ?_
   rotate_left
   ·show Act.put _ (some 44) _ = _
    simp only [Act.put, List.setIfInBounds_toArray, List.set_cons_zero, List.set_cons_succ, i64_w, i32_w]
    rfl
   refine pure_ (i := 4) (N := some 45) (v := ?_) (a' := ?_) #[true, true, true, true, true] rfl rfl (by kernel_rfl) (fun _ _ _ h => h) (Or.inl ⟨by rfl, ?_⟩) ?_ ?_
   rotate_left
   ·intro w'
    go_simp
    with_reducible rfl
   rotate_left
   ·simp only [Act.put, List.setIfInBounds_toArray, List.set_cons_zero, List.set_cons_succ, i64_w, i32_w]
    rfl
   refine done_ (by kernel_rfl) ?_
   try go_wp2
   go_ret
   exact ⟨zl12, zl1⟩

end Go.Proofs.Ytfjomkjngolboaa.Q

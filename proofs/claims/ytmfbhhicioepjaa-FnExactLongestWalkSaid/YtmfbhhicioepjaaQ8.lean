/- Written by a program of this session: functions of the translation as plain Lean functions, each with a proof that the call does what the plain function says; the conditions stand in each theorem. -/
import Derived.Test.YtmfbhhicioepjaaQ0
import Derived.Test.YtmfbhhicioepjaaQ1
import Derived.Test.YtmfbhhicioepjaaQ4
import Derived.Test.YtmfbhhicioepjaaQ7
namespace Go.Proofs.Ytmfbhhicioepjaa.Q
open Go.RowKit Go.Proofs.YtmfbhhicioepjaaW.PrintWords Go.Proofs.YtmfbhhicioepjaaW.PrintLast Go.Proofs.YtmfbhhicioepjaaW.PrintMore
attribute [local go_sem] max2_int min2_int max_two min_two max_three min_three max_four min_four   -- for this text's walks alone
set_option linter.unusedVariables false
set_option linter.unusedSimpArgs false

theorem zi1 {p : Prop} (h : p := by repeat (first | (with_reducible first | exact HB.out | apply below_alloc | apply pw_below_drewN | apply below_drew1 | refine below_set ?_ GE288.out | refine below_set ?_ GE289.out | refine below_set ?_ GE307.out) | exact HB.out)) : p := h
theorem zi2 {p : Prop} (h : p := by first | exact BK288.out | ((with_reducible repeat (first | refine blk_drewN ?_ _ | refine blk_drew ?_ | refine blk_alloc ?_ _)); exact BK288.out)) : p := h
theorem zi3 {p : Prop} (h : p := by (try simp only [List.map_toArray, List.map_cons, List.map_nil]); first | done | rfl | (simp only [List.length_drop, List.length_take]; rfl)) : p := h
theorem zi4 {p : Prop} (h : p := by first | exact BK289.out | ((with_reducible repeat (first | refine blk_drewN ?_ _ | refine blk_drew ?_ | refine blk_alloc ?_ _)); exact BK289.out)) : p := h
theorem zi5 {p : Prop} (h : p := by repeat (first | (with_reducible first | exact HB.out | apply below_alloc | apply pw_below_drewN | apply below_drew1 | refine below_set ?_ GE288.out | refine below_set ?_ GE289.out) | exact HB.out)) : p := h
theorem zi6 {p : Prop} (h : p := by first | exact BK307.out | ((with_reducible repeat (first | refine blk_drewN ?_ _ | refine blk_drew ?_ | refine blk_alloc ?_ _)); exact BK307.out)) : p := h
theorem zi7 {p : Prop} (h : p := by first | exact HO_308002.out | ((with_reducible repeat (first | apply Kd.R_alloc | apply Kd.R_drewN | apply Kd.R_drew)); exact HO_308002.out)) : p := h
theorem zi8 {p : Prop} (h : p := by repeat (first | exact (Kd.R_reads' HO_9.out).2.2 | (with_reducible refine Kd.C_alloc ?_ _) | (with_reducible refine Kd.C_drewN ?_ _) | (with_reducible refine Kd.C_drew ?_))) : p := h
theorem zi9 {p : Prop} (h : p := by first | exact HO_9.out | ((with_reducible repeat (first | apply Kd.R_alloc | apply Kd.R_drewN | apply Kd.R_drew)); exact HO_9.out)) : p := h
theorem zi10 {p : Prop} (h : p := by first | exact HO_6.out | ((with_reducible repeat (first | apply Kd.R_alloc | apply Kd.R_drewN | apply Kd.R_drew)); exact HO_6.out)) : p := h
theorem zi11 {p : Prop} (h : p := by repeat (first | exact (Kd.C_below HR0_2.out HB.out) | (with_reducible refine Kd.C_alloc ?_ _) | (with_reducible refine Kd.C_drewN ?_ _) | (with_reducible refine Kd.C_drew ?_))) : p := h
theorem zi12 {p : Prop} (h : p := by first | rfl | (simp [errW_none, errW_some] <;> rfl) | (simp [*, errW_none, errW_some] <;> rfl)) : p := h
theorem zi13 {p : Prop} (h : p := by first | exact HO295.out | ((with_reducible repeat (first | apply Kd.R_alloc | apply Kd.R_drewN | apply Kd.R_drew)); exact HO295.out)) : p := h
theorem zi14 {p : Prop} (h : p := by repeat (first | (with_reducible first | exact HB.out | apply below_alloc | apply pw_below_drewN | apply below_drew1 | refine below_set ?_ GE288.out) | exact HB.out)) : p := h
theorem zi15 {p : Prop} (h : p := by repeat (first | (with_reducible first | exact HB.out | apply below_alloc | apply pw_below_drewN | apply below_drew1) | exact HB.out)) : p := h
theorem zi16 {p : Prop} (h : p := by first | exact HO300.out | ((with_reducible repeat (first | apply Kd.R_alloc | apply Kd.R_drewN | apply Kd.R_drew)); exact HO300.out)) : p := h
theorem zi17 {p : Prop} (h : p := by repeat (first | exact (Kd.R_reads' HO_6.out).2.2 | (with_reducible refine Kd.C_alloc ?_ _) | (with_reducible refine Kd.C_drewN ?_ _) | (with_reducible refine Kd.C_drew ?_))) : p := h
theorem zi18 {p : Prop} (h : p := by (try simp only [List.map_toArray, List.map_cons, List.map_nil]); first | done | (rw [show t325.length = t310.length from (Kd.R_reads' HO_9.out).1.symm] <;> rfl) | rfl | (simp only [List.length_drop, List.length_take]; rfl)) : p := h
theorem zi19 {p : Prop} (h : p := by first | exact HO306.out | ((with_reducible repeat (first | apply Kd.R_alloc | apply Kd.R_drewN | apply Kd.R_drew)); exact HO306.out)) : p := h
theorem zi20 {p : Prop} (h : p := by (with_reducible repeat (first | apply Kd.R_alloc | apply Kd.R_drewN | apply Kd.R_drew)); exact Kd.R_mono HO_308002.out (fun _ hk => ⟨hk.1.1, hk.1.2⟩)) : p := h
theorem zi21 {p : Prop} (h : p := by (with_reducible repeat (first | apply Kd.R_alloc | apply Kd.R_drewN | apply Kd.R_drew)); exact Kd.R_mono HO_9.out (fun _ hk => ⟨hk.1, hk.2.1⟩)) : p := h
theorem zi22 {p : Prop} (h : p := by (with_reducible repeat (first | apply Kd.R_alloc | apply Kd.R_drewN | apply Kd.R_drew)); exact Kd.R_mono HO_6.out (fun _ hk => ⟨hk.1, hk.2.1⟩)) : p := h
theorem zi23 {p : Prop} (h : p := by first | rfl | (simp; done) | (simp [*]; done)) : p := h
theorem zi24 {p : Prop} (h : p := by first | exact HO331.out | ((with_reducible repeat (first | apply Kd.R_alloc | apply Kd.R_drewN | apply Kd.R_drew)); exact HO331.out)) : p := h
theorem zi25 {p : Prop} (h : p := by rw [show t325.length = t310.length from (Kd.R_reads' HO_9.out).1.symm]; exact (Kd.R_reads' HO_9.out).2.1) : p := h
theorem zi26 {p : Prop} (h : p := by (try simp only [hl308002_48]); (with_reducible repeat (first | apply Kd.R_alloc | apply Kd.R_drewN | apply Kd.R_drew)); exact Kd.R_mono HO_308002.out (fun _ hk => hk.1.1.2)) : p := h
theorem zi27 {p : Prop} (h : p := by (try simp only [hl308002_48]); (with_reducible repeat (first | apply Kd.R_alloc | apply Kd.R_drewN | apply Kd.R_drew)); exact Kd.R_mono HO_9.out (fun _ hk => hk.1.1.2)) : p := h
theorem zi28 {p : Prop} (h : p := by repeat (first | exact (Kd.R_reads' HO_308002.out).2.2 | (with_reducible refine Kd.C_alloc ?_ _) | (with_reducible refine Kd.C_drewN ?_ _) | (with_reducible refine Kd.C_drew ?_))) : p := h
theorem zi29 {p : Prop} (h : p := by repeat (first | exact (Kd.R_reads' HO336.out).2.2 | (with_reducible refine Kd.C_alloc ?_ _) | (with_reducible refine Kd.C_drewN ?_ _) | (with_reducible refine Kd.C_drew ?_))) : p := h
theorem zi30 {p : Prop} (h : p := by repeat (first | exact (Kd.R_reads' HO319.out).2.2 | (with_reducible refine Kd.C_alloc ?_ _) | (with_reducible refine Kd.C_drewN ?_ _) | (with_reducible refine Kd.C_drew ?_))) : p := h
theorem zi31 {p : Prop} (h : p := by repeat (first | exact (Kd.R_reads' HO312.out).2.2 | (with_reducible refine Kd.C_alloc ?_ _) | (with_reducible refine Kd.C_drewN ?_ _) | (with_reducible refine Kd.C_drew ?_))) : p := h
theorem zi32 {p : Prop} (h : p := by repeat (first | exact (Kd.R_reads' HO300.out).2.2 | (with_reducible refine Kd.C_alloc ?_ _) | (with_reducible refine Kd.C_drewN ?_ _) | (with_reducible refine Kd.C_drew ?_))) : p := h
theorem zi33 {p : Prop} (h : p := by (try simp only [hl308002_48]); first | exact BK307.out | ((with_reducible repeat (first | refine blk_drewN ?_ _ | refine blk_drew ?_ | refine blk_alloc ?_ _)); exact BK307.out)) : p := h
theorem zi34 {p : Prop} (h : p := by (try simp only [hl308002_48]); first | exact BK289.out | ((with_reducible repeat (first | refine blk_drewN ?_ _ | refine blk_drew ?_ | refine blk_alloc ?_ _)); exact BK289.out)) : p := h
theorem zi35 {p : Prop} (h : p := by (try simp only [hl308002_48]); first | exact BK288.out | ((with_reducible repeat (first | refine blk_drewN ?_ _ | refine blk_drew ?_ | refine blk_alloc ?_ _)); exact BK288.out)) : p := h
theorem zi36 {p : Prop} (h : p := by (with_reducible repeat (first | apply Kd.R_alloc | apply Kd.R_drewN | apply Kd.R_drew)); exact Kd.R_mono HO312.out (fun _ hk => ⟨hk.1.2, hk.2⟩)) : p := h
theorem zi37 {p : Prop} (h : p := by (with_reducible repeat (first | apply Kd.R_alloc | apply Kd.R_drewN | apply Kd.R_drew)); exact Kd.R_mono HO306.out (fun _ hk => ⟨hk.1.2, hk.2⟩)) : p := h
theorem zi38 {p : Prop} (h : p := by (with_reducible repeat (first | apply Kd.R_alloc | apply Kd.R_drewN | apply Kd.R_drew)); exact Kd.R_mono HO300.out (fun _ hk => ⟨hk.2, hk.1.2⟩)) : p := h
theorem zi39 {p : Prop} (h : p := by rw [hg]; exact Nat.ne_of_lt (blk_lt (g := gb288) (o := .cells #[.int .i64 a0_0, .int .i64 a0_1, .slice A0_2 l0_2.length c0_2] 24 (0, 0)) zi2)) : p := h
theorem zi40 {p : Prop} (h : p := by rw [hg]; exact Nat.ne_of_gt (blk_lt (g := gb288) (o := .cells #[.int .i64 a0_0, .int .i64 a0_1, .slice A0_2 l0_2.length c0_2] 24 (0, 0)) zi2)) : p := h
/-! ### laws_FnExactLongestWalk: function 3 -/
mutual
def laws_FnExactLongestWalk.j0 : Nat → List Int → Bool → List Int → Bool → Bool → Int → Int → List Int → Int → Int → Int → Int → List Int → Option (Bool)
 | 0, _, _, _, _, _, _, _, _, _, _, _, _, _ => none
 | k + 1, x6, x7, x9, x10, x46, x289000, x289001, x289002, x290000, x290001, x308000, x308001, x308002 => if x46 = true then (some false) else ((laws_toBoard.f k x289000 x289001 x289002).bind fun bt315 => ((laws_eqBoard.f k x308000 x308001 x308002 bt315.1 bt315.2.1 bt315.2.2).bind fun t320 => (if t320 = true then ((laws_markBoard.f k x308000 x308001 x308002 1).bind fun bt321 => (if bt321.1 < 0 then (laws_FnExactLongestWalk.j1 k x6 x7 x9 true x289000 x289001 x289002 x290000 x290001) else ((laws_eqIntS.f k x9 x6).bind fun t323 => (if t323 = true then (laws_FnExactLongestWalk.j1 k x6 x7 x9 (x10 != x7) x289000 x289001 x289002 x290000 x290001) else (laws_FnExactLongestWalk.j1 k x6 x7 x9 true x289000 x289001 x289002 x290000 x290001))))) else (some false))))
def laws_FnExactLongestWalk.j1 : Nat → List Int → Bool → List Int → Bool → Int → Int → List Int → Int → Int → Option (Bool)
 | 0, _, _, _, _, _, _, _, _, _ => none
 | k + 1, x6, x7, x9, x67, x289000, x289001, x289002, x290000, x290001 => if x67 = true then (some false) else ((laws_markIntS.f k x9 1).bind fun bt324 => ((laws_heldIntS.f k bt324.2 1).bind fun t326 => (if t326 < 0 then (some false) else (if t326 = bt324.1 then ((laws_toBoard.f k x289000 x289001 x289002).bind fun bt327 => ((laws_toLeaper.f x290000 x290001).bind fun bt332 => ((impl_LongestWalk.f k bt327.1 bt327.2.1 bt327.2.2 bt332.1 bt332.2).bind fun bt334 => ((laws_eqIntS.f k bt334.1 x6).bind fun t338 => (if t338 = true then (laws_FnExactLongestWalk.j2 k bt324.2 bt324.1 (bt334.2 != x7)) else (laws_FnExactLongestWalk.j2 k bt324.2 bt324.1 true)))))) else (some false)))))
def laws_FnExactLongestWalk.j2 : Nat → List Int → Int → Bool → Option (Bool)
 | 0, _, _, _ => none
 | k + 1, x9, x12, x95 => if x95 = true then (some false) else ((laws_heldIntS.f k x9 1).bind fun t339 => (if t339 < 0 then (some false) else (if t339 = x12 then (some true) else (some false))))
end
def laws_FnExactLongestWalk.f (k : Nat) (a0_0 : Int) (a0_1 : Int) (l0_2 : List Int) (a1_0 : Int) (a1_1 : Int) : Option (Bool) := (laws_szBoard.f a0_0 a0_1 l0_2 1048576).bind fun t290 => (if t290 < 0 then (some true) else ((laws_toBoard.f k a0_0 a0_1 l0_2).bind fun bt291 => ((laws_toLeaper.f a1_0 a1_1).bind fun bt296 => ((spec_LongestWalk.f k bt291.1 bt291.2.1 bt291.2.2 bt296.1 bt296.2).bind fun bt298 => ((laws_toBoard.f k a0_0 a0_1 l0_2).bind fun bt302 => ((laws_toLeaper.f a1_0 a1_1).bind fun bt308 => ((impl_LongestWalk.f k bt302.1 bt302.2.1 bt302.2.2 bt308.1 bt308.2).bind fun bt310 => ((laws_eqIntS.f k bt310.1 bt298.1).bind fun t314 => (if t314 = true then (laws_FnExactLongestWalk.j0 k bt298.1 bt298.2 bt310.1 bt310.2 (bt310.2 != bt298.2) a0_0 a0_1 l0_2 a1_0 a1_1 bt302.1 bt302.2.1 bt302.2.2) else (laws_FnExactLongestWalk.j0 k bt298.1 bt298.2 bt310.1 bt310.2 true a0_0 a0_1 l0_2 a1_0 a1_1 bt302.1 bt302.2.1 bt302.2.2))))))))))
def laws_FnExactLongestWalk.T5 : Bool × List (List Nat × List Nat) := (true, [([], []), ([0], [0]), ([], []), ([2, 1], [2]), ([1, 3, 3], [1, 3]), ([4], [4]), ([5], [5]), ([5], [5]), ([6, 4, 0, 1, 2, 3, 4, 5, 6], [6]), ([7, 8, 0, 1, 2, 3, 4, 5, 6, 7, 8], [7])])
def laws_FnExactLongestWalk.B5 : List Nat := [0, 1, 0, 7, 15, 31, 63, 63, 127, 511]
theorem laws_FnExactLongestWalk.tab5 : rtab .any (opsOf Try.f3 5) = laws_FnExactLongestWalk.T5 := by kernel_rfl
theorem laws_FnExactLongestWalk.bits5 : waitsOk laws_FnExactLongestWalk.T5.2 laws_FnExactLongestWalk.B5 = true := by kernel_rfl
def laws_FnExactLongestWalk.T7 : Bool × List (List Nat × List Nat) := (true, [([], []), ([], []), ([1], [1]), ([0, 2, 2], [0, 2]), ([3], [3]), ([4], [4]), ([4], [4]), ([5, 3, 0, 1, 2, 3, 4, 5], [5]), ([6, 7, 0, 1, 2, 3, 4, 5, 6, 7], [6])])
def laws_FnExactLongestWalk.B7 : List Nat := [0, 0, 2, 7, 15, 31, 31, 63, 255]
theorem laws_FnExactLongestWalk.tab7 : rtab .any (opsOf Try.f3 7) = laws_FnExactLongestWalk.T7 := by kernel_rfl
theorem laws_FnExactLongestWalk.bits7 : waitsOk laws_FnExactLongestWalk.T7.2 laws_FnExactLongestWalk.B7 = true := by kernel_rfl
def laws_FnExactLongestWalk.T24 : Bool × List (List Nat × List Nat) := (true, [([], []), ([0], [0]), ([], []), ([2, 1], [2]), ([1, 3, 3], [1, 3]), ([4], [4]), ([5], [5]), ([5], [5]), ([6, 4, 0, 1, 2, 3, 4, 5, 6], [6]), ([7, 8, 0, 1, 2, 3, 4, 5, 6, 7, 8], [7])])
def laws_FnExactLongestWalk.B24 : List Nat := [0, 1, 0, 7, 15, 31, 63, 63, 127, 511]
theorem laws_FnExactLongestWalk.tab24 : rtab .any (opsOf Try.f3 24) = laws_FnExactLongestWalk.T24 := by kernel_rfl
theorem laws_FnExactLongestWalk.bits24 : waitsOk laws_FnExactLongestWalk.T24.2 laws_FnExactLongestWalk.B24 = true := by kernel_rfl
set_option maxHeartbeats 8000000 in
set_option maxRecDepth 100000 in
theorem laws_FnExactLongestWalk.calls (k : Nat) (a0_0 : Int) (a0_1 : Int) (A0_2 : Option Addr) (c0_2 : Nat) (l0_2 : List Int) (a1_0 : Int) (a1_1 : Int) (r : Bool) (w : World) (hr0_2 : Kd.C (Kd.int .i64) w A0_2 l0_2.length l0_2) (hc0_2 : l0_2.length ≤ c0_2) (h : laws_FnExactLongestWalk.f k a0_0 a0_1 l0_2 a1_0 a1_1 = some r) :
  Calls Try.prog 3 #[.agg #[.int .i64 a0_0, .int .i64 a0_1, .slice A0_2 l0_2.length c0_2], .agg #[.int .i64 a1_0, .int .i64 a1_1]] w fun e w' => e = .returned (.bool r) ∧ Below w.heap.size w w' := by
 have hu24 := Try.underlying24
 have hu26 := Try.underlying26
 have hu30 := Try.underlying30
 have HR0_2 := Aside0.mk hr0_2
 have HC0_2 := Aside0.mk hc0_2
 clear hr0_2 hc0_2
 have HB := Aside0.mk (Below.refl w.heap.size w)
 have H : ((laws_szBoard.f a0_0 a0_1 l0_2 1048576).bind fun t290 => (if t290 < 0 then (some true) else ((laws_toBoard.f k a0_0 a0_1 l0_2).bind fun bt291 => ((laws_toLeaper.f a1_0 a1_1).bind fun bt296 => ((spec_LongestWalk.f k bt291.1 bt291.2.1 bt291.2.2 bt296.1 bt296.2).bind fun bt298 => ((laws_toBoard.f k a0_0 a0_1 l0_2).bind fun bt302 => ((laws_toLeaper.f a1_0 a1_1).bind fun bt308 => ((impl_LongestWalk.f k bt302.1 bt302.2.1 bt302.2.2 bt308.1 bt308.2).bind fun bt310 => ((laws_eqIntS.f k bt310.1 bt298.1).bind fun t314 => (if t314 = true then (laws_FnExactLongestWalk.j0 k bt298.1 bt298.2 bt310.1 bt310.2 (bt310.2 != bt298.2) a0_0 a0_1 l0_2 a1_0 a1_1 bt302.1 bt302.2.1 bt302.2.2) else (laws_FnExactLongestWalk.j0 k bt298.1 bt298.2 bt310.1 bt310.2 true a0_0 a0_1 l0_2 a1_0 a1_1 bt302.1 bt302.2.1 bt302.2.2))))))))))) = some r := h
 clear h
 replace H := Option.bind_eq_some_iff.mp H
 obtain ⟨t290, A30, H⟩ := H
 replace H : (if t290 < 0 then (some true) else ((laws_toBoard.f k a0_0 a0_1 l0_2).bind fun bt291 => ((laws_toLeaper.f a1_0 a1_1).bind fun bt296 => ((spec_LongestWalk.f k bt291.1 bt291.2.1 bt291.2.2 bt296.1 bt296.2).bind fun bt298 => ((laws_toBoard.f k a0_0 a0_1 l0_2).bind fun bt302 => ((laws_toLeaper.f a1_0 a1_1).bind fun bt308 => ((impl_LongestWalk.f k bt302.1 bt302.2.1 bt302.2.2 bt308.1 bt308.2).bind fun bt310 => ((laws_eqIntS.f k bt310.1 bt298.1).bind fun t314 => (if t314 = true then (laws_FnExactLongestWalk.j0 k bt298.1 bt298.2 bt310.1 bt310.2 (bt310.2 != bt298.2) a0_0 a0_1 l0_2 a1_0 a1_1 bt302.1 bt302.2.1 bt302.2.2) else (laws_FnExactLongestWalk.j0 k bt298.1 bt298.2 bt310.1 bt310.2 true a0_0 a0_1 l0_2 a1_0 a1_1 bt302.1 bt302.2.1 bt302.2.2)))))))))) = some r := H
 have A3 := Aside0.mk A30
 clear A30
 by_cases c4 : t290 < 0
 ·rw [if_pos c4] at H
  have c4b0 : decide (t290 < 0) = true := decide_eq_true c4
  clear c4
  obtain rfl := Option.some.inj H
  go_enter Try.func3, Try.ntmps3
  go_wp2_with (first | ((with_reducible refine gate_dst (N := 2) rfl ?_); refine box_event ?hg (N := 2) ?hd (cs := #[.int .i64 a0_0, .int .i64 a0_1, .slice A0_2 l0_2.length c0_2]) (t := 24) ?hr ?_; (case hd => rfl); (case hg => rfl); (case hr => first | (go_simp; done) | (go_simp; rfl)); intro gb288 hg w5 hbox hb; have n0_ := Aside0.mk (below_step zi15 hb); have n1_ := Aside0.mk (hbox); have n2_ := Aside0.mk ((by rw [hg]; exact (below_size zi15) : w.heap.size ≤ gb288)); have n3_ := Aside0.mk ((by rw [hg]; exact (below_size zi15) : w.heap.size ≤ gb288)); clear HB; have HB := n0_; have BK288 := n1_; have GW288 := n2_; have GE288 := n3_; clear n0_ n1_ n2_ n3_; clear hb hbox hg) | ((with_reducible refine gate_dst (N := 3) rfl ?_); refine box_event ?hg (N := 3) ?hd (cs := #[.int .i64 a1_0, .int .i64 a1_1]) (t := 26) ?hr ?_; (case hd => rfl); (case hg => rfl); (case hr => first | (go_simp; done) | (go_simp; rfl)); intro gb289 hg w6 hbox hb; have n0_ := Aside0.mk (blk_below (g := gb288) (o := .cells #[.int .i64 a0_0, .int .i64 a0_1, .slice A0_2 l0_2.length c0_2] 24 (0, 0)) zi2 hb); have n1_ := Aside0.mk (below_step zi14 hb); have n2_ := Aside0.mk (hbox); have n3_ := Aside0.mk ((by rw [hg]; exact (below_size zi14) : w.heap.size ≤ gb289)); have n4_ := Aside0.mk ((by rw [hg]; exact (below_size zi14) : w.heap.size ≤ gb289)); have n5_ := Aside0.mk ((zi39 : gb288 ≠ gb289)); have n6_ := Aside0.mk ((zi40 : gb289 ≠ gb288)); clear BK288; clear HB; have BK288 := n0_; have HB := n1_; have BK289 := n2_; have GW289 := n3_; have GE289 := n4_; have NB288_289 := n5_; have NB289_288 := n6_; clear n0_ n1_ n2_ n3_ n4_ n5_ n6_; clear hb hbox hg; have hnb7 := NB288_289.out; have hnc7 := NB289_288.out; have hcz8_0 : w6.cell? ⟨gb288, 0, none⟩ = some (.int .i64 a0_0) := (blk_cell BK288.out 0).trans rfl; have hcz8_1 : w6.cell? ⟨gb288, 1, none⟩ = some (.int .i64 a0_1) := (blk_cell BK288.out 1).trans rfl; have hcz8_2 : w6.cell? ⟨gb288, 2, none⟩ = some (.slice A0_2 l0_2.length c0_2) := (blk_cell BK288.out 2).trans rfl; have hfz8_0 := blk_frozen BK288.out 0; have hfz8_1 := blk_frozen BK288.out 1; have hfz8_2 := blk_frozen BK288.out 2) | ((with_reducible refine gate_callee (f := 5) rfl ?_); refine goesL_ (some 18) rfl rfl Try.func5 (by kernel_rfl) rfl #[.agg #[.int .i64 a0_0, .int .i64 a0_1, .slice A0_2 l0_2.length c0_2], .int .i64 1048576] rfl zi3 ?_; (with_reducible refine (laws_szBoard.calls a0_0 a0_1 _ _ l0_2 1048576 t290 _ ?side1 ?side2 A3.out).mono ?_); (case side1 => exact zi11); (case side2 => exact HC0_2.out); rintro e w9 ⟨rfl, hb⟩; refine ⟨_, rfl, ?_⟩; have n0_ := Aside0.mk (blk_below (g := gb288) (o := .cells #[.int .i64 a0_0, .int .i64 a0_1, .slice A0_2 l0_2.length c0_2] 24 (0, 0)) zi2 hb); have n1_ := Aside0.mk (blk_below (g := gb289) (o := .cells #[.int .i64 a1_0, .int .i64 a1_1] 26 (0, 0)) zi4 hb); have n2_ := Aside0.mk (below_step zi5 hb); clear BK288; clear BK289; clear HB; have BK288 := n0_; have BK289 := n1_; have HB := n2_; clear n0_ n1_ n2_; (try clear hb); (try clear hb2); (try clear hk); (try clear hi); (try clear hna_); (try clear hnb_)))
  go_ret
  exact ⟨zi12, zi5⟩
 rw [if_neg c4] at H
 have c4b0 : decide (t290 < 0) = false := decide_eq_false c4
 clear c4
 replace H := Option.bind_eq_some_iff.mp H
 obtain ⟨⟨t291, t292, t293⟩, A100, H⟩ := H
 replace H : ((laws_toLeaper.f a1_0 a1_1).bind fun bt296 => ((spec_LongestWalk.f k t291 t292 t293 bt296.1 bt296.2).bind fun bt298 => ((laws_toBoard.f k a0_0 a0_1 l0_2).bind fun bt302 => ((laws_toLeaper.f a1_0 a1_1).bind fun bt308 => ((impl_LongestWalk.f k bt302.1 bt302.2.1 bt302.2.2 bt308.1 bt308.2).bind fun bt310 => ((laws_eqIntS.f k bt310.1 bt298.1).bind fun t314 => (if t314 = true then (laws_FnExactLongestWalk.j0 k bt298.1 bt298.2 bt310.1 bt310.2 (bt310.2 != bt298.2) a0_0 a0_1 l0_2 a1_0 a1_1 bt302.1 bt302.2.1 bt302.2.2) else (laws_FnExactLongestWalk.j0 k bt298.1 bt298.2 bt310.1 bt310.2 true a0_0 a0_1 l0_2 a1_0 a1_1 bt302.1 bt302.2.1 bt302.2.2)))))))) = some r := H
 have A10 := Aside0.mk A100
 clear A100
 replace H := Option.bind_eq_some_iff.mp H
 obtain ⟨⟨t296, t297⟩, A110, H⟩ := H
 replace H : ((spec_LongestWalk.f k t291 t292 t293 t296 t297).bind fun bt298 => ((laws_toBoard.f k a0_0 a0_1 l0_2).bind fun bt302 => ((laws_toLeaper.f a1_0 a1_1).bind fun bt308 => ((impl_LongestWalk.f k bt302.1 bt302.2.1 bt302.2.2 bt308.1 bt308.2).bind fun bt310 => ((laws_eqIntS.f k bt310.1 bt298.1).bind fun t314 => (if t314 = true then (laws_FnExactLongestWalk.j0 k bt298.1 bt298.2 bt310.1 bt310.2 (bt310.2 != bt298.2) a0_0 a0_1 l0_2 a1_0 a1_1 bt302.1 bt302.2.1 bt302.2.2) else (laws_FnExactLongestWalk.j0 k bt298.1 bt298.2 bt310.1 bt310.2 true a0_0 a0_1 l0_2 a1_0 a1_1 bt302.1 bt302.2.1 bt302.2.2))))))) = some r := H
 have A11 := Aside0.mk A110
 clear A110
 replace H := Option.bind_eq_some_iff.mp H
 obtain ⟨⟨t298, t301⟩, A120, H⟩ := H
 replace H : ((laws_toBoard.f k a0_0 a0_1 l0_2).bind fun bt302 => ((laws_toLeaper.f a1_0 a1_1).bind fun bt308 => ((impl_LongestWalk.f k bt302.1 bt302.2.1 bt302.2.2 bt308.1 bt308.2).bind fun bt310 => ((laws_eqIntS.f k bt310.1 t298).bind fun t314 => (if t314 = true then (laws_FnExactLongestWalk.j0 k t298 t301 bt310.1 bt310.2 (bt310.2 != t301) a0_0 a0_1 l0_2 a1_0 a1_1 bt302.1 bt302.2.1 bt302.2.2) else (laws_FnExactLongestWalk.j0 k t298 t301 bt310.1 bt310.2 true a0_0 a0_1 l0_2 a1_0 a1_1 bt302.1 bt302.2.1 bt302.2.2)))))) = some r := H
 have A12 := Aside0.mk A120
 clear A120
 replace H := Option.bind_eq_some_iff.mp H
 obtain ⟨⟨t302, t303, t304⟩, A130, H⟩ := H
 replace H : ((laws_toLeaper.f a1_0 a1_1).bind fun bt308 => ((impl_LongestWalk.f k t302 t303 t304 bt308.1 bt308.2).bind fun bt310 => ((laws_eqIntS.f k bt310.1 t298).bind fun t314 => (if t314 = true then (laws_FnExactLongestWalk.j0 k t298 t301 bt310.1 bt310.2 (bt310.2 != t301) a0_0 a0_1 l0_2 a1_0 a1_1 t302 t303 t304) else (laws_FnExactLongestWalk.j0 k t298 t301 bt310.1 bt310.2 true a0_0 a0_1 l0_2 a1_0 a1_1 t302 t303 t304))))) = some r := H
 have A13 := Aside0.mk A130
 clear A130
 replace H := Option.bind_eq_some_iff.mp H
 obtain ⟨⟨t308, t309⟩, A140, H⟩ := H
 replace H : ((impl_LongestWalk.f k t302 t303 t304 t308 t309).bind fun bt310 => ((laws_eqIntS.f k bt310.1 t298).bind fun t314 => (if t314 = true then (laws_FnExactLongestWalk.j0 k t298 t301 bt310.1 bt310.2 (bt310.2 != t301) a0_0 a0_1 l0_2 a1_0 a1_1 t302 t303 t304) else (laws_FnExactLongestWalk.j0 k t298 t301 bt310.1 bt310.2 true a0_0 a0_1 l0_2 a1_0 a1_1 t302 t303 t304)))) = some r := H
 have A14 := Aside0.mk A140
 clear A140
 replace H := Option.bind_eq_some_iff.mp H
 obtain ⟨⟨t310, t313⟩, A150, H⟩ := H
 replace H : ((laws_eqIntS.f k t310 t298).bind fun t314 => (if t314 = true then (laws_FnExactLongestWalk.j0 k t298 t301 t310 t313 (t313 != t301) a0_0 a0_1 l0_2 a1_0 a1_1 t302 t303 t304) else (laws_FnExactLongestWalk.j0 k t298 t301 t310 t313 true a0_0 a0_1 l0_2 a1_0 a1_1 t302 t303 t304))) = some r := H
 have A15 := Aside0.mk A150
 clear A150
 have HC16 := Aside0.mk H
 clear H
 go_enter Try.func3, Try.ntmps3
 try go_wp2_with (first | ((with_reducible refine gate_dst (N := 2) rfl ?_); refine box_event ?hg (N := 2) ?hd (cs := #[.int .i64 a0_0, .int .i64 a0_1, .slice A0_2 l0_2.length c0_2]) (t := 24) ?hr ?_; (case hd => rfl); (case hg => rfl); (case hr => first | (go_simp; done) | (go_simp; rfl)); intro gb288 hg w17 hbox hb; have n0_ := Aside0.mk (below_step zi15 hb); have n1_ := Aside0.mk (hbox); have n2_ := Aside0.mk ((by rw [hg]; exact (below_size zi15) : w.heap.size ≤ gb288)); have n3_ := Aside0.mk ((by rw [hg]; exact (below_size zi15) : w.heap.size ≤ gb288)); clear HB; have HB := n0_; have BK288 := n1_; have GW288 := n2_; have GE288 := n3_; clear n0_ n1_ n2_ n3_; clear hb hbox hg) | ((with_reducible refine gate_dst (N := 3) rfl ?_); refine box_event ?hg (N := 3) ?hd (cs := #[.int .i64 a1_0, .int .i64 a1_1]) (t := 26) ?hr ?_; (case hd => rfl); (case hg => rfl); (case hr => first | (go_simp; done) | (go_simp; rfl)); intro gb289 hg w18 hbox hb; have n0_ := Aside0.mk (blk_below (g := gb288) (o := .cells #[.int .i64 a0_0, .int .i64 a0_1, .slice A0_2 l0_2.length c0_2] 24 (0, 0)) zi2 hb); have n1_ := Aside0.mk (below_step zi14 hb); have n2_ := Aside0.mk (hbox); have n3_ := Aside0.mk ((by rw [hg]; exact (below_size zi14) : w.heap.size ≤ gb289)); have n4_ := Aside0.mk ((by rw [hg]; exact (below_size zi14) : w.heap.size ≤ gb289)); have n5_ := Aside0.mk ((zi39 : gb288 ≠ gb289)); have n6_ := Aside0.mk ((zi40 : gb289 ≠ gb288)); clear BK288; clear HB; have BK288 := n0_; have HB := n1_; have BK289 := n2_; have GW289 := n3_; have GE289 := n4_; have NB288_289 := n5_; have NB289_288 := n6_; clear n0_ n1_ n2_ n3_ n4_ n5_ n6_; clear hb hbox hg; have hnb19 := NB288_289.out; have hnc19 := NB289_288.out; have hcz20_0 : w18.cell? ⟨gb288, 0, none⟩ = some (.int .i64 a0_0) := (blk_cell BK288.out 0).trans rfl; have hcz20_1 : w18.cell? ⟨gb288, 1, none⟩ = some (.int .i64 a0_1) := (blk_cell BK288.out 1).trans rfl; have hcz20_2 : w18.cell? ⟨gb288, 2, none⟩ = some (.slice A0_2 l0_2.length c0_2) := (blk_cell BK288.out 2).trans rfl; have hfz20_0 := blk_frozen BK288.out 0; have hfz20_1 := blk_frozen BK288.out 1; have hfz20_2 := blk_frozen BK288.out 2) | ((with_reducible refine gate_callee (f := 5) rfl ?_); refine goesL_ (some 18) rfl rfl Try.func5 (by kernel_rfl) rfl #[.agg #[.int .i64 a0_0, .int .i64 a0_1, .slice A0_2 l0_2.length c0_2], .int .i64 1048576] rfl zi3 ?_; (with_reducible refine (laws_szBoard.calls a0_0 a0_1 _ _ l0_2 1048576 t290 _ ?side1 ?side2 A3.out).mono ?_); (case side1 => exact zi11); (case side2 => exact HC0_2.out); rintro e w21 ⟨rfl, hb⟩; refine ⟨_, rfl, ?_⟩; have n0_ := Aside0.mk (blk_below (g := gb288) (o := .cells #[.int .i64 a0_0, .int .i64 a0_1, .slice A0_2 l0_2.length c0_2] 24 (0, 0)) zi2 hb); have n1_ := Aside0.mk (blk_below (g := gb289) (o := .cells #[.int .i64 a1_0, .int .i64 a1_1] 26 (0, 0)) zi4 hb); have n2_ := Aside0.mk (below_step zi5 hb); clear BK288; clear BK289; clear HB; have BK288 := n0_; have BK289 := n1_; have HB := n2_; clear n0_ n1_ n2_; (try clear hb); (try clear hb2); (try clear hk); (try clear hi); (try clear hna_); (try clear hnb_)))
 have n0_ := Aside0.mk (blk_drew BK288.out)
 have n1_ := Aside0.mk (blk_drew BK289.out)
 have n2_ := Aside0.mk (below_drew1 HB.out)
 clear BK288
 clear BK289
 clear HB
 have BK288 := n0_
 have BK289 := n1_
 have HB := n2_
 clear n0_ n1_ n2_
 refine start_ (n := 10) (S := fun w' => w'.cell? ⟨gb288, 0, none⟩ = some (.int .i64 a0_0) ∧ w'.cell? ⟨gb288, 1, none⟩ = some (.int .i64 a0_1) ∧ w'.cell? ⟨gb288, 2, none⟩ = some (.slice A0_2 l0_2.length c0_2) ∧ w'.cell? ⟨gb289, 0, none⟩ = some (.int .i64 a1_0) ∧ w'.cell? ⟨gb289, 1, none⟩ = some (.int .i64 a1_1)) (ds := []) #[false, false, false, false, false, false, false, false, false, false] (by kernel_rfl) rfl rfl ⟨(blk_cell BK288.out 0).trans rfl, (blk_cell BK288.out 1).trans rfl, (blk_cell BK288.out 2).trans rfl, (blk_cell BK289.out 0).trans rfl, (blk_cell BK289.out 1).trans rfl⟩ (fun hHeld => ?_); refine with_tabW laws_FnExactLongestWalk.tab5 laws_FnExactLongestWalk.bits5 (fun HT_ HW_ => ?_)
 generalize w21.drew = w22 at BK288 BK289 HB hHeld ⊢
 refine take_ (i := 0) (N := some 22) (v := ?_) (a' := ?_) #[true, false, false, false, false, false, false, false, false, false] rfl rfl (take_ofW HT_.out HW_.out (by kernel_rfl)) (fun _ _ _ h => h) (Or.inl ⟨by rfl, ?_⟩) hHeld ?_ ?_
 rotate_left
 ·rintro w' ⟨s0, s1, s2, s3, s4⟩
  go_simp
  with_reducible rfl
 rotate_left
 ·simp only [Act.put, List.setIfInBounds_toArray, List.set_cons_zero, List.set_cons_succ, i64_w, i32_w]
  rfl
 refine take_ (i := 2) (N := some 24) (v := ?_) (a' := ?_) #[true, false, true, false, false, false, false, false, false, false] rfl rfl (take_ofW HT_.out HW_.out (by kernel_rfl)) (fun _ _ _ h => h) (Or.inl ⟨by rfl, ?_⟩) hHeld ?_ ?_
 rotate_left
 ·rintro w' ⟨s0, s1, s2, s3, s4⟩
  go_simp
  with_reducible rfl
 rotate_left
 ·simp only [Act.put, List.setIfInBounds_toArray, List.set_cons_zero, List.set_cons_succ, i64_w, i32_w]
  rfl
 refine one_ (i := 1) (N := some 23) #[true, true, true, false, false, false, false, false, false, false] rfl rfl (one_of HT_.out (by kernel_rfl)) (by decide) (fun K hK => ?_)
 refine goes_ Try.func7 (by kernel_rfl) rfl #[.agg #[.int .i64 a0_0, .int .i64 a0_1, .slice A0_2 l0_2.length c0_2]] (by rfl) rfl rfl zi3 ?_
 with_reducible refine (laws_toBoard.calls k a0_0 a0_1 _ _ l0_2 t291 t292 t293 _ ?side1 ?side2 A10.out).mono ?_
 (case side1 => exact zi11)
 (case side2 => exact HC0_2.out)
 rintro e w23 ⟨v294, rfl, ho0, hb⟩
 refine ⟨_, rfl, ?_⟩
 have n0_ := Aside0.mk (Kd.R_lower ho0 (below_size zi5))
 have n1_ := Aside0.mk (blk_below (g := gb288) (o := .cells #[.int .i64 a0_0, .int .i64 a0_1, .slice A0_2 l0_2.length c0_2] 24 (0, 0)) zi2 hb)
 have n2_ := Aside0.mk (blk_below (g := gb289) (o := .cells #[.int .i64 a1_0, .int .i64 a1_1] 26 (0, 0)) zi4 hb)
 have n3_ := Aside0.mk (below_step zi5 hb)
 clear BK288
 clear BK289
 clear HB
 have HO295 := n0_
 have BK288 := n1_
 have BK289 := n2_
 have HB := n3_
 clear n0_ n1_ n2_ n3_
 (try clear hb)
 (try clear hb2)
 (try clear hk)
 (try clear hi)
 (try clear ho0)
 (try clear hna_)
 (try clear hnb_)
 refine hK.out _ _ ⟨(blk_cell BK288.out 0).trans rfl, (blk_cell BK288.out 1).trans rfl, (blk_cell BK288.out 2).trans rfl, (blk_cell BK289.out 0).trans rfl, (blk_cell BK289.out 1).trans rfl⟩ (fun hHeld => ?_)
 clear hK K
 refine norm_ (a' := ?_) ?_ ?_
 rotate_left
 ·show Act.put _ (some 23) _ = _
  simp only [Act.put, List.setIfInBounds_toArray, List.set_cons_zero, List.set_cons_succ, i64_w, i32_w]
  rfl
 refine one_ (i := 3) (N := some 25) #[true, true, true, true, false, false, false, false, false, false] rfl rfl (one_of HT_.out (by kernel_rfl)) (by decide) (fun K hK => ?_)
 refine goes_ Try.func8 (by kernel_rfl) rfl #[.agg #[.int .i64 a1_0, .int .i64 a1_1]] (by rfl) rfl rfl zi3 ?_
 with_reducible refine (laws_toLeaper.calls a1_0 a1_1 t296 t297 _ A11.out).mono ?_
 rintro e w24 ⟨rfl, hb⟩
 refine ⟨_, rfl, ?_⟩
 have n0_ := Aside0.mk (Kd.R_below zi13 hb)
 have n1_ := Aside0.mk (blk_below (g := gb288) (o := .cells #[.int .i64 a0_0, .int .i64 a0_1, .slice A0_2 l0_2.length c0_2] 24 (0, 0)) zi2 hb)
 have n2_ := Aside0.mk (blk_below (g := gb289) (o := .cells #[.int .i64 a1_0, .int .i64 a1_1] 26 (0, 0)) zi4 hb)
 have n3_ := Aside0.mk (below_step zi5 hb)
 clear HO295
 clear BK288
 clear BK289
 clear HB
 have HO295 := n0_
 have BK288 := n1_
 have BK289 := n2_
 have HB := n3_
 clear n0_ n1_ n2_ n3_
 (try clear hb)
 (try clear hb2)
 (try clear hk)
 (try clear hi)
 (try clear hna_)
 (try clear hnb_)
 obtain ⟨Ao25, co25, eo25⟩ := Kd.R_slice HO295.out
 (first | subst eo25 | (injection eo25 with f1_ f2_ f3_; have f4_ := f1_.symm; have f5_ := f3_.symm; clear f1_ f2_ f3_; subst f4_; subst f5_))
 refine hK.out _ _ ⟨(blk_cell BK288.out 0).trans rfl, (blk_cell BK288.out 1).trans rfl, (blk_cell BK288.out 2).trans rfl, (blk_cell BK289.out 0).trans rfl, (blk_cell BK289.out 1).trans rfl⟩ (fun hHeld => ?_)
 clear hK K
 refine norm_ (a' := ?_) ?_ ?_
 rotate_left
 ·show Act.put _ (some 25) _ = _
  simp only [Act.put, List.setIfInBounds_toArray, List.set_cons_zero, List.set_cons_succ, i64_w, i32_w]
  rfl
 refine one_ (i := 4) (N := some 26) #[true, true, true, true, true, false, false, false, false, false] rfl rfl (one_of HT_.out (by kernel_rfl)) (by decide) (fun K hK => ?_)
 refine goes_ Try.func6 (by kernel_rfl) rfl #[.agg #[.int .i64 t291, .int .i64 t292, .slice Ao25 t293.length co25], .agg #[.int .i64 t296, .int .i64 t297]] (by rfl) rfl rfl zi3 ?_
 with_reducible refine (spec_LongestWalk.calls k t291 t292 _ _ t293 t296 t297 t298 t301 _ ?side1 ?side2 A12.out).mono ?_
 (case side1 => repeat (first | exact (Kd.R_reads' HO295.out).2.2 | (with_reducible refine Kd.C_alloc ?_ _) | (with_reducible refine Kd.C_drewN ?_ _) | (with_reducible refine Kd.C_drew ?_)))
 (case side2 => exact (Kd.R_reads' HO295.out).2.1)
 rintro e w26 ⟨v299, rfl, ho0, hb⟩
 refine ⟨_, rfl, ?_⟩
 have n0_ := Aside0.mk (Kd.R_elder' zi13 (Kd.R_base ho0) hb)
 have n1_ := Aside0.mk (Kd.R_lower (Kd.R_new' ho0 (Kd.R_lt zi13)) (below_size zi5))
 have n2_ := Aside0.mk (blk_below (g := gb288) (o := .cells #[.int .i64 a0_0, .int .i64 a0_1, .slice A0_2 l0_2.length c0_2] 24 (0, 0)) zi2 hb)
 have n3_ := Aside0.mk (blk_below (g := gb289) (o := .cells #[.int .i64 a1_0, .int .i64 a1_1] 26 (0, 0)) zi4 hb)
 have n4_ := Aside0.mk (below_step zi5 hb)
 clear HO295
 clear BK288
 clear BK289
 clear HB
 have HO295 := n0_
 have HO300 := n1_
 have BK288 := n2_
 have BK289 := n3_
 have HB := n4_
 clear n0_ n1_ n2_ n3_ n4_
 (try clear hb)
 (try clear hb2)
 (try clear hk)
 (try clear hi)
 (try clear ho0)
 (try clear hna_)
 (try clear hnb_)
 refine hK.out _ _ ⟨(blk_cell BK288.out 0).trans rfl, (blk_cell BK288.out 1).trans rfl, (blk_cell BK288.out 2).trans rfl, (blk_cell BK289.out 0).trans rfl, (blk_cell BK289.out 1).trans rfl⟩ (fun hHeld => ?_)
 clear hK K
 refine norm_ (a' := ?_) ?_ ?_
 rotate_left
 ·show Act.put _ (some 26) _ = _
  simp only [Act.put, List.setIfInBounds_toArray, List.set_cons_zero, List.set_cons_succ, i64_w, i32_w]
  rfl
 refine pure_ (i := 5) (N := some 21) (v := ?_) (a' := ?_) #[true, true, true, true, true, true, false, false, false, false] rfl rfl (any_of HT_.out (by kernel_rfl)) (fun _ _ _ h => h) (Or.inl ⟨by rfl, ?_⟩) ?_ ?_
 rotate_left
 ·intro w'
  go_simp
  with_reducible rfl
 rotate_left
 ·simp only [Act.put, List.setIfInBounds_toArray, List.set_cons_zero, List.set_cons_succ, i64_w, i32_w]
  rfl
 refine pure_ (i := 6) (N := some 27) (v := ?_) (a' := ?_) #[true, true, true, true, true, true, true, false, false, false] rfl rfl (any_of HT_.out (by kernel_rfl)) (fun _ _ _ h => h) (Or.inl ⟨by rfl, ?_⟩) ?_ ?_
 rotate_left
 ·intro w'
  go_simp
  with_reducible rfl
 rotate_left
 ·simp only [Act.put, List.setIfInBounds_toArray, List.set_cons_zero, List.set_cons_succ, i64_w, i32_w]
  rfl
 refine pure_ (i := 7) (N := some 28) (v := ?_) (a' := ?_) #[true, true, true, true, true, true, true, true, false, false] rfl rfl (any_of HT_.out (by kernel_rfl)) (fun _ _ _ h => h) (Or.inl ⟨by rfl, ?_⟩) ?_ ?_
 rotate_left
 ·intro w'
  go_simp
  with_reducible rfl
 rotate_left
 ·simp only [Act.put, List.setIfInBounds_toArray, List.set_cons_zero, List.set_cons_succ, i64_w, i32_w]
  rfl
 refine pure_ (i := 8) (N := some 6) (v := ?_) (a' := ?_) #[true, true, true, true, true, true, true, true, true, false] rfl rfl (any_of HT_.out (by kernel_rfl)) (fun _ _ _ h => h) (Or.inl ⟨by rfl, ?_⟩) ?_ ?_
 rotate_left
 ·intro w'
  go_simp
  with_reducible rfl
 rotate_left
 ·simp only [Act.put, List.setIfInBounds_toArray, List.set_cons_zero, List.set_cons_succ, i64_w, i32_w]
  rfl
 refine pure_ (i := 9) (N := some 7) (v := ?_) (a' := ?_) #[true, true, true, true, true, true, true, true, true, true] rfl rfl (any_of HT_.out (by kernel_rfl)) (fun _ _ _ h => h) (Or.inl ⟨by rfl, ?_⟩) ?_ ?_
 rotate_left
 ·intro w'
  go_simp
  with_reducible rfl
 rotate_left
 ·simp only [Act.put, List.setIfInBounds_toArray, List.set_cons_zero, List.set_cons_succ, i64_w, i32_w]
  rfl
 refine done_ (done_of HT_.out (by kernel_rfl)) ?_
 have hcz27_0 : w26.cell? ⟨gb288, 0, none⟩ = some (.int .i64 a0_0) := (blk_cell BK288.out 0).trans rfl
 have hcz27_1 : w26.cell? ⟨gb288, 1, none⟩ = some (.int .i64 a0_1) := (blk_cell BK288.out 1).trans rfl
 have hcz27_2 : w26.cell? ⟨gb288, 2, none⟩ = some (.slice A0_2 l0_2.length c0_2) := (blk_cell BK288.out 2).trans rfl
 have hfz27_0 := blk_frozen BK288.out 0
 have hfz27_1 := blk_frozen BK288.out 1
 have hfz27_2 := blk_frozen BK288.out 2
 try go_wp2_with (first | ((with_reducible refine gate_callee (f := 7) rfl ?_); refine goesL_ (some 30) rfl rfl Try.func7 (by kernel_rfl) rfl #[.agg #[.int .i64 a0_0, .int .i64 a0_1, .slice A0_2 l0_2.length c0_2]] rfl zi3 ?_; (with_reducible refine (laws_toBoard.calls k a0_0 a0_1 _ _ l0_2 t302 t303 t304 _ ?side1 ?side2 A13.out).mono ?_); (case side1 => exact zi11); (case side2 => exact HC0_2.out); rintro e w28 ⟨v305, rfl, ho0, hb⟩; refine ⟨_, rfl, ?_⟩; have n0_ := Aside0.mk (Kd.R_elder' zi13 (Kd.R_base ho0) hb); have n1_ := Aside0.mk (Kd.R_elder' zi16 (Kd.R_base ho0) hb); have n2_ := Aside0.mk (Kd.R_lower (Kd.R_new' (Kd.R_new' ho0 (Kd.R_lt zi13)) (Kd.R_lt zi16)) (below_size zi5)); have n3_ := Aside0.mk (blk_below (g := gb288) (o := .cells #[.int .i64 a0_0, .int .i64 a0_1, .slice A0_2 l0_2.length c0_2] 24 (0, 0)) zi2 hb); have n4_ := Aside0.mk (blk_below (g := gb289) (o := .cells #[.int .i64 a1_0, .int .i64 a1_1] 26 (0, 0)) zi4 hb); have n5_ := Aside0.mk (below_step zi5 hb); clear HO295; clear HO300; clear BK288; clear BK289; clear HB; have HO295 := n0_; have HO300 := n1_; have HO306 := n2_; have BK288 := n3_; have BK289 := n4_; have HB := n5_; clear n0_ n1_ n2_ n3_ n4_ n5_; (try clear hb); (try clear hb2); (try clear hk); (try clear hi); (try clear ho0); (try clear hna_); (try clear hnb_)) | ((with_reducible refine gate_dst (N := 8) rfl ?_); refine box_event ?hg (N := 8) ?hd (cs := #[.int .i64 0, .int .i64 0, .slice none 0 0]) (t := 30) ?hr ?_; (case hd => rfl); (case hg => rfl); (case hr => first | (go_simp; done) | (go_simp; rfl)); intro gb307 hg w29 hbox hb; have n0_ := Aside0.mk (Kd.R_below zi13 hb); have n1_ := Aside0.mk (Kd.R_below zi16 hb); have n2_ := Aside0.mk (Kd.R_below zi19 hb); have n3_ := Aside0.mk (blk_below (g := gb288) (o := .cells #[.int .i64 a0_0, .int .i64 a0_1, .slice A0_2 l0_2.length c0_2] 24 (0, 0)) zi2 hb); have n4_ := Aside0.mk (blk_below (g := gb289) (o := .cells #[.int .i64 a1_0, .int .i64 a1_1] 26 (0, 0)) zi4 hb); have n5_ := Aside0.mk (below_step zi5 hb); have n6_ := Aside0.mk (hbox); have n7_ := Aside0.mk ((by rw [hg]; exact (below_size zi5) : w.heap.size ≤ gb307)); have n8_ := Aside0.mk ((by rw [hg]; exact (below_size zi5) : w.heap.size ≤ gb307)); have n9_ := Aside0.mk ((zi39 : gb288 ≠ gb307)); have n10_ := Aside0.mk ((zi40 : gb307 ≠ gb288)); have n11_ := Aside0.mk ((by rw [hg]; exact Nat.ne_of_lt (blk_lt (g := gb289) (o := .cells #[.int .i64 a1_0, .int .i64 a1_1] 26 (0, 0)) zi4) : gb289 ≠ gb307)); have n12_ := Aside0.mk ((by rw [hg]; exact Nat.ne_of_gt (blk_lt (g := gb289) (o := .cells #[.int .i64 a1_0, .int .i64 a1_1] 26 (0, 0)) zi4) : gb307 ≠ gb289)); clear HO295; clear HO300; clear HO306; clear BK288; clear BK289; clear HB; have HO295 := n0_; have HO300 := n1_; have HO306 := n2_; have BK288 := n3_; have BK289 := n4_; have HB := n5_; have BK307 := n6_; have GW307 := n7_; have GE307 := n8_; have NB288_307 := n9_; have NB307_288 := n10_; have NB289_307 := n11_; have NB307_289 := n12_; clear n0_ n1_ n2_ n3_ n4_ n5_ n6_ n7_ n8_ n9_ n10_ n11_ n12_; clear hb hbox hg; have hnb30 := NB307_288.out; have hnc30 := NB288_307.out; have hnb31 := NB307_289.out; have hnc31 := NB289_307.out; have hcz32_0 : w29.cell? ⟨gb307, 0, none⟩ = some (.int .i64 0) := (blk_cell BK307.out 0).trans rfl; have hcz32_1 : w29.cell? ⟨gb307, 1, none⟩ = some (.int .i64 0) := (blk_cell BK307.out 1).trans rfl; have hcz32_2 : w29.cell? ⟨gb307, 2, none⟩ = some (.slice none 0 0) := (blk_cell BK307.out 2).trans rfl; have hfz32_0 := blk_frozen BK307.out 0; have hfz32_1 := blk_frozen BK307.out 1; have hfz32_2 := blk_frozen BK307.out 2; obtain ⟨Ao33, co33, eo33⟩ := Kd.R_slice HO306.out; subst eo33))
 have n0_ : Aside0 (Kd.R (Kd.int .i64) 3 (((w29.setCell ⟨gb307, 0, none⟩ (.int .i64 t302)).setCell ⟨gb307, 1, none⟩ (.int .i64 t303)).setCell ⟨gb307, 2, none⟩ (.slice Ao33 t304.length co33)) w.heap.size (fun k_ => some k_ ≠ (v299 : Value).ownBlock ∧ some k_ ≠ (.slice Ao33 t304.length co33 : Value).ownBlock) (.slice Ao25 t293.length co25) t293) := ⟨by (with_reducible repeat (first | apply Kd.R_alloc | apply Kd.R_drewN | apply Kd.R_drew)); exact Kd.R_mono (Kd.R_far (p := ⟨gb307, 2, none⟩) (Kd.R_far (p := ⟨gb307, 1, none⟩) (Kd.R_far (p := ⟨gb307, 0, none⟩) (Kd.R_types HO295.out BK307.out (by decide)) (fun _ hk => hk.2) (.int .i64 t302)) (fun _ hk => hk.2) (.int .i64 t303)) (fun _ hk => hk.2) (.slice Ao33 t304.length co33)) (fun _ hk => ⟨hk.1.1.2, hk.1.2⟩)⟩
 have n1_ : Aside0 (Kd.R (Kd.int .i64) 3 (((w29.setCell ⟨gb307, 0, none⟩ (.int .i64 t302)).setCell ⟨gb307, 1, none⟩ (.int .i64 t303)).setCell ⟨gb307, 2, none⟩ (.slice Ao33 t304.length co33)) w.heap.size (fun k_ => some k_ ≠ (.slice Ao25 t293.length co25 : Value).ownBlock ∧ some k_ ≠ (.slice Ao33 t304.length co33 : Value).ownBlock) v299 t298) := ⟨by (with_reducible repeat (first | apply Kd.R_alloc | apply Kd.R_drewN | apply Kd.R_drew)); exact Kd.R_mono (Kd.R_far (p := ⟨gb307, 2, none⟩) (Kd.R_far (p := ⟨gb307, 1, none⟩) (Kd.R_far (p := ⟨gb307, 0, none⟩) (Kd.R_types HO300.out BK307.out (by decide)) (fun _ hk => hk.2) (.int .i64 t302)) (fun _ hk => hk.2) (.int .i64 t303)) (fun _ hk => hk.2) (.slice Ao33 t304.length co33)) (fun _ hk => ⟨hk.1.1.2, hk.1.2⟩)⟩
 have n2_ : Aside0 (Kd.R (Kd.int .i64) 3 (((w29.setCell ⟨gb307, 0, none⟩ (.int .i64 t302)).setCell ⟨gb307, 1, none⟩ (.int .i64 t303)).setCell ⟨gb307, 2, none⟩ (.slice Ao33 t304.length co33)) w.heap.size (fun k_ => some k_ ≠ (.slice Ao25 t293.length co25 : Value).ownBlock ∧ some k_ ≠ (v299 : Value).ownBlock) (.slice Ao33 t304.length co33) t304) := ⟨by (with_reducible repeat (first | apply Kd.R_alloc | apply Kd.R_drewN | apply Kd.R_drew)); exact Kd.R_mono (Kd.R_far (p := ⟨gb307, 2, none⟩) (Kd.R_far (p := ⟨gb307, 1, none⟩) (Kd.R_far (p := ⟨gb307, 0, none⟩) (Kd.R_types HO306.out BK307.out (by decide)) (fun _ hk => hk.2) (.int .i64 t302)) (fun _ hk => hk.2) (.int .i64 t303)) (fun _ hk => hk.2) (.slice Ao33 t304.length co33)) (fun _ hk => ⟨hk.1.1.2, hk.1.2⟩)⟩
 have n3_ : Aside0 ((((w29.setCell ⟨gb307, 0, none⟩ (.int .i64 t302)).setCell ⟨gb307, 1, none⟩ (.int .i64 t303)).setCell ⟨gb307, 2, none⟩ (.slice Ao33 t304.length co33)).heap[gb288]? = some (.cells #[.int .i64 a0_0, .int .i64 a0_1, .slice A0_2 l0_2.length c0_2] 24 (0, 0))) := ⟨by (with_reducible repeat (first | refine blk_drewN ?_ _ | refine blk_drew ?_ | refine blk_alloc ?_ _)); refine blk_far ?_ NB288_307.out _; (with_reducible repeat (first | refine blk_drewN ?_ _ | refine blk_drew ?_ | refine blk_alloc ?_ _)); refine blk_far ?_ NB288_307.out _; (with_reducible repeat (first | refine blk_drewN ?_ _ | refine blk_drew ?_ | refine blk_alloc ?_ _)); refine blk_far ?_ NB288_307.out _; first | exact BK288.out | ((with_reducible repeat (first | refine blk_drewN ?_ _ | refine blk_drew ?_ | refine blk_alloc ?_ _)); exact BK288.out)⟩
 have n4_ : Aside0 ((((w29.setCell ⟨gb307, 0, none⟩ (.int .i64 t302)).setCell ⟨gb307, 1, none⟩ (.int .i64 t303)).setCell ⟨gb307, 2, none⟩ (.slice Ao33 t304.length co33)).heap[gb289]? = some (.cells #[.int .i64 a1_0, .int .i64 a1_1] 26 (0, 0))) := ⟨by (with_reducible repeat (first | refine blk_drewN ?_ _ | refine blk_drew ?_ | refine blk_alloc ?_ _)); refine blk_far ?_ NB289_307.out _; (with_reducible repeat (first | refine blk_drewN ?_ _ | refine blk_drew ?_ | refine blk_alloc ?_ _)); refine blk_far ?_ NB289_307.out _; (with_reducible repeat (first | refine blk_drewN ?_ _ | refine blk_drew ?_ | refine blk_alloc ?_ _)); refine blk_far ?_ NB289_307.out _; first | exact BK289.out | ((with_reducible repeat (first | refine blk_drewN ?_ _ | refine blk_drew ?_ | refine blk_alloc ?_ _)); exact BK289.out)⟩
 have n5_ : Aside0 ((((w29.setCell ⟨gb307, 0, none⟩ (.int .i64 t302)).setCell ⟨gb307, 1, none⟩ (.int .i64 t303)).setCell ⟨gb307, 2, none⟩ (.slice Ao33 t304.length co33)).heap[gb307]? = some (.cells #[.int .i64 t302, .int .i64 t303, .slice Ao33 t304.length co33] 30 (0, 0))) := ⟨by (with_reducible repeat (first | refine blk_drewN ?_ _ | refine blk_drew ?_ | refine blk_alloc ?_ _)); refine blk_put (cs := #[.int .i64 t302, .int .i64 t303, .slice none 0 0]) ?_ 2 _ rfl; (with_reducible repeat (first | refine blk_drewN ?_ _ | refine blk_drew ?_ | refine blk_alloc ?_ _)); refine blk_put (cs := #[.int .i64 t302, .int .i64 0, .slice none 0 0]) ?_ 1 _ rfl; (with_reducible repeat (first | refine blk_drewN ?_ _ | refine blk_drew ?_ | refine blk_alloc ?_ _)); refine blk_put (cs := #[.int .i64 0, .int .i64 0, .slice none 0 0]) ?_ 0 _ rfl; first | exact BK307.out | ((with_reducible repeat (first | refine blk_drewN ?_ _ | refine blk_drew ?_ | refine blk_alloc ?_ _)); exact BK307.out)⟩
 have n6_ : Aside0 (Below w.heap.size w (((w29.setCell ⟨gb307, 0, none⟩ (.int .i64 t302)).setCell ⟨gb307, 1, none⟩ (.int .i64 t303)).setCell ⟨gb307, 2, none⟩ (.slice Ao33 t304.length co33))) := ⟨zi1⟩
 (try clear HO295)
 (try clear HO300)
 (try clear HO306)
 (try clear BK288)
 (try clear BK289)
 (try clear BK307)
 (try clear HB)
 generalize (((w29.setCell ⟨gb307, 0, none⟩ (.int .i64 t302)).setCell ⟨gb307, 1, none⟩ (.int .i64 t303)).setCell ⟨gb307, 2, none⟩ (.slice Ao33 t304.length co33)) = w34 at n0_ n1_ n2_ n3_ n4_ n5_ n6_ ⊢
 have HO295 := n0_
 have HO300 := n1_
 have HO306 := n2_
 have BK288 := n3_
 have BK289 := n4_
 have BK307 := n5_
 have HB := n6_
 clear n0_ n1_ n2_ n3_ n4_ n5_ n6_
 have n0_ := Aside0.mk (Kd.R_drew HO295.out)
 have n1_ := Aside0.mk (Kd.R_drew HO300.out)
 have n2_ := Aside0.mk (Kd.R_drew HO306.out)
 have n3_ := Aside0.mk (blk_drew BK288.out)
 have n4_ := Aside0.mk (blk_drew BK289.out)
 have n5_ := Aside0.mk (blk_drew BK307.out)
 have n6_ := Aside0.mk (below_drew1 HB.out)
 clear HO295
 clear HO300
 clear HO306
 clear BK288
 clear BK289
 clear BK307
 clear HB
 have HO295 := n0_
 have HO300 := n1_
 have HO306 := n2_
 have BK288 := n3_
 have BK289 := n4_
 have BK307 := n5_
 have HB := n6_
 clear n0_ n1_ n2_ n3_ n4_ n5_ n6_
 refine start_ (n := 9) (S := fun w' => w'.cell? ⟨gb307, 0, none⟩ = some (.int .i64 t302) ∧ w'.cell? ⟨gb307, 1, none⟩ = some (.int .i64 t303) ∧ w'.cell? ⟨gb307, 2, none⟩ = some (.slice Ao33 t304.length co33) ∧ w'.cell? ⟨gb289, 0, none⟩ = some (.int .i64 a1_0) ∧ w'.cell? ⟨gb289, 1, none⟩ = some (.int .i64 a1_1)) (ds := []) #[false, false, false, false, false, false, false, false, false] (by kernel_rfl) rfl rfl ⟨(blk_cell BK307.out 0).trans rfl, (blk_cell BK307.out 1).trans rfl, (blk_cell BK307.out 2).trans rfl, (blk_cell BK289.out 0).trans rfl, (blk_cell BK289.out 1).trans rfl⟩ (fun hHeld => ?_); refine with_tabW laws_FnExactLongestWalk.tab7 laws_FnExactLongestWalk.bits7 (fun HT_ HW_ => ?_)
 generalize w34.drew = w35 at HO295 HO300 HO306 BK288 BK289 BK307 HB hHeld ⊢
 refine take_ (i := 0) (N := some 32) (v := ?_) (a' := ?_) #[true, false, false, false, false, false, false, false, false] rfl rfl (take_ofW HT_.out HW_.out (by kernel_rfl)) (fun _ _ _ h => h) (Or.inl ⟨by rfl, ?_⟩) hHeld ?_ ?_
 rotate_left
 ·rintro w' ⟨s0, s1, s2, s3, s4⟩
  go_simp
  with_reducible rfl
 rotate_left
 ·simp only [Act.put, List.setIfInBounds_toArray, List.set_cons_zero, List.set_cons_succ, i64_w, i32_w]
  rfl
 refine take_ (i := 1) (N := some 33) (v := ?_) (a' := ?_) #[true, true, false, false, false, false, false, false, false] rfl rfl (take_ofW HT_.out HW_.out (by kernel_rfl)) (fun _ _ _ h => h) (Or.inl ⟨by rfl, ?_⟩) hHeld ?_ ?_
 rotate_left
 ·rintro w' ⟨s0, s1, s2, s3, s4⟩
  go_simp
  with_reducible rfl
 rotate_left
 ·simp only [Act.put, List.setIfInBounds_toArray, List.set_cons_zero, List.set_cons_succ, i64_w, i32_w]
  rfl
 refine one_ (i := 2) (N := some 34) #[true, true, true, false, false, false, false, false, false] rfl rfl (one_of HT_.out (by kernel_rfl)) (by decide) (fun K hK => ?_)
 refine goes_ Try.func8 (by kernel_rfl) rfl #[.agg #[.int .i64 a1_0, .int .i64 a1_1]] (by rfl) rfl rfl zi3 ?_
 with_reducible refine (laws_toLeaper.calls a1_0 a1_1 t308 t309 _ A14.out).mono ?_
 rintro e w36 ⟨rfl, hb⟩
 refine ⟨_, rfl, ?_⟩
 have n0_ := Aside0.mk (Kd.R_below zi13 hb)
 have n1_ := Aside0.mk (Kd.R_below zi16 hb)
 have n2_ := Aside0.mk (Kd.R_below zi19 hb)
 have n3_ := Aside0.mk (blk_below (g := gb288) (o := .cells #[.int .i64 a0_0, .int .i64 a0_1, .slice A0_2 l0_2.length c0_2] 24 (0, 0)) zi2 hb)
 have n4_ := Aside0.mk (blk_below (g := gb289) (o := .cells #[.int .i64 a1_0, .int .i64 a1_1] 26 (0, 0)) zi4 hb)
 have n5_ := Aside0.mk (blk_below (g := gb307) (o := .cells #[.int .i64 t302, .int .i64 t303, .slice Ao33 t304.length co33] 30 (0, 0)) zi6 hb)
 have n6_ := Aside0.mk (below_step zi1 hb)
 clear HO295
 clear HO300
 clear HO306
 clear BK288
 clear BK289
 clear BK307
 clear HB
 have HO295 := n0_
 have HO300 := n1_
 have HO306 := n2_
 have BK288 := n3_
 have BK289 := n4_
 have BK307 := n5_
 have HB := n6_
 clear n0_ n1_ n2_ n3_ n4_ n5_ n6_
 (try clear hb)
 (try clear hb2)
 (try clear hk)
 (try clear hi)
 (try clear hna_)
 (try clear hnb_)
 refine hK.out _ _ ⟨(blk_cell BK307.out 0).trans rfl, (blk_cell BK307.out 1).trans rfl, (blk_cell BK307.out 2).trans rfl, (blk_cell BK289.out 0).trans rfl, (blk_cell BK289.out 1).trans rfl⟩ (fun hHeld => ?_)
 clear hK K
 refine norm_ (a' := ?_) ?_ ?_
 rotate_left
 ·show Act.put _ (some 34) _ = _
  simp only [Act.put, List.setIfInBounds_toArray, List.set_cons_zero, List.set_cons_succ, i64_w, i32_w]
  rfl
 refine one_ (i := 3) (N := some 35) #[true, true, true, true, false, false, false, false, false] rfl rfl (one_of HT_.out (by kernel_rfl)) (by decide) (fun K hK => ?_)
 refine goes_ Try.func9 (by kernel_rfl) rfl #[.agg #[.int .i64 t302, .int .i64 t303, .slice Ao33 t304.length co33], .agg #[.int .i64 t308, .int .i64 t309]] (by rfl) rfl rfl zi3 ?_
 with_reducible refine (impl_LongestWalk.calls k t302 t303 _ _ t304 t308 t309 t310 t313 _ ?side1 ?side2 A15.out).mono ?_
 (case side1 => repeat (first | exact (Kd.R_reads' HO306.out).2.2 | (with_reducible refine Kd.C_alloc ?_ _) | (with_reducible refine Kd.C_drewN ?_ _) | (with_reducible refine Kd.C_drew ?_)))
 (case side2 => exact (Kd.R_reads' HO306.out).2.1)
 rintro e w37 ⟨v311, rfl, ho0, hb⟩
 refine ⟨_, rfl, ?_⟩
 have n0_ := Aside0.mk (Kd.R_elder' zi13 (Kd.R_base ho0) hb)
 have n1_ := Aside0.mk (Kd.R_elder' zi16 (Kd.R_base ho0) hb)
 have n2_ := Aside0.mk (Kd.R_elder' zi19 (Kd.R_base ho0) hb)
 have n3_ := Aside0.mk (Kd.R_lower (Kd.R_new' (Kd.R_new' (Kd.R_new' ho0 (Kd.R_lt zi13)) (Kd.R_lt zi16)) (Kd.R_lt zi19)) (below_size zi1))
 have n4_ := Aside0.mk (blk_below (g := gb288) (o := .cells #[.int .i64 a0_0, .int .i64 a0_1, .slice A0_2 l0_2.length c0_2] 24 (0, 0)) zi2 hb)
 have n5_ := Aside0.mk (blk_below (g := gb289) (o := .cells #[.int .i64 a1_0, .int .i64 a1_1] 26 (0, 0)) zi4 hb)
 have n6_ := Aside0.mk (blk_below (g := gb307) (o := .cells #[.int .i64 t302, .int .i64 t303, .slice Ao33 t304.length co33] 30 (0, 0)) zi6 hb)
 have n7_ := Aside0.mk (below_step zi1 hb)
 clear HO295
 clear HO300
 clear HO306
 clear BK288
 clear BK289
 clear BK307
 clear HB
 have HO295 := n0_
 have HO300 := n1_
 have HO306 := n2_
 have HO312 := n3_
 have BK288 := n4_
 have BK289 := n5_
 have BK307 := n6_
 have HB := n7_
 clear n0_ n1_ n2_ n3_ n4_ n5_ n6_ n7_
 (try clear hb)
 (try clear hb2)
 (try clear hk)
 (try clear hi)
 (try clear ho0)
 (try clear hna_)
 (try clear hnb_)
 refine hK.out _ _ ⟨(blk_cell BK307.out 0).trans rfl, (blk_cell BK307.out 1).trans rfl, (blk_cell BK307.out 2).trans rfl, (blk_cell BK289.out 0).trans rfl, (blk_cell BK289.out 1).trans rfl⟩ (fun hHeld => ?_)
 clear hK K
 refine norm_ (a' := ?_) ?_ ?_
 rotate_left
 ·show Act.put _ (some 35) _ = _
  simp only [Act.put, List.setIfInBounds_toArray, List.set_cons_zero, List.set_cons_succ, i64_w, i32_w]
  rfl
 refine pure_ (i := 4) (N := some 31) (v := ?_) (a' := ?_) #[true, true, true, true, true, false, false, false, false] rfl rfl (any_of HT_.out (by kernel_rfl)) (fun _ _ _ h => h) (Or.inl ⟨by rfl, ?_⟩) ?_ ?_
 rotate_left
 ·intro w'
  go_simp
  with_reducible rfl
 rotate_left
 ·simp only [Act.put, List.setIfInBounds_toArray, List.set_cons_zero, List.set_cons_succ, i64_w, i32_w]
  rfl
 refine pure_ (i := 5) (N := some 36) (v := ?_) (a' := ?_) #[true, true, true, true, true, true, false, false, false] rfl rfl (any_of HT_.out (by kernel_rfl)) (fun _ _ _ h => h) (Or.inl ⟨by rfl, ?_⟩) ?_ ?_
 rotate_left
 ·intro w'
  go_simp
  with_reducible rfl
 rotate_left
 ·simp only [Act.put, List.setIfInBounds_toArray, List.set_cons_zero, List.set_cons_succ, i64_w, i32_w]
  rfl
 refine pure_ (i := 6) (N := some 37) (v := ?_) (a' := ?_) #[true, true, true, true, true, true, true, false, false] rfl rfl (any_of HT_.out (by kernel_rfl)) (fun _ _ _ h => h) (Or.inl ⟨by rfl, ?_⟩) ?_ ?_
 rotate_left
 ·intro w'
  go_simp
  with_reducible rfl
 rotate_left
 ·simp only [Act.put, List.setIfInBounds_toArray, List.set_cons_zero, List.set_cons_succ, i64_w, i32_w]
  rfl
 refine pure_ (i := 7) (N := some 9) (v := ?_) (a' := ?_) #[true, true, true, true, true, true, true, true, false] rfl rfl (any_of HT_.out (by kernel_rfl)) (fun _ _ _ h => h) (Or.inl ⟨by rfl, ?_⟩) ?_ ?_
 rotate_left
 ·intro w'
  go_simp
  with_reducible rfl
 rotate_left
 ·simp only [Act.put, List.setIfInBounds_toArray, List.set_cons_zero, List.set_cons_succ, i64_w, i32_w]
  rfl
 refine pure_ (i := 8) (N := some 10) (v := ?_) (a' := ?_) #[true, true, true, true, true, true, true, true, true] rfl rfl (any_of HT_.out (by kernel_rfl)) (fun _ _ _ h => h) (Or.inl ⟨by rfl, ?_⟩) ?_ ?_
 rotate_left
 ·intro w'
  go_simp
  with_reducible rfl
 rotate_left
 ·simp only [Act.put, List.setIfInBounds_toArray, List.set_cons_zero, List.set_cons_succ, i64_w, i32_w]
  rfl
 refine done_ (done_of HT_.out (by kernel_rfl)) ?_
 go_upto_region 8 with (fail)
 go_cut [46] (fun v46 wc => ∃ (kq : Nat) (x46_15 : Bool), v46 = .bool x46_15 ∧ Aside0 (laws_FnExactLongestWalk.j0 kq t298 t301 t310 t313 x46_15 a0_0 a0_1 l0_2 a1_0 a1_1 t302 t303 t304 = some r) ∧ Aside0 (kq ≤ k) ∧ Aside0 (Kd.R (Kd.int .i64) 3 wc w.heap.size (fun k_ => some k_ ≠ (v311 : Value).ownBlock ∧ some k_ ≠ ((.slice Ao33 t304.length co33) : Value).ownBlock) v299 t298) ∧ Aside0 (Kd.R (Kd.int .i64) 3 wc w.heap.size (fun k_ => some k_ ≠ (v299 : Value).ownBlock ∧ some k_ ≠ ((.slice Ao33 t304.length co33) : Value).ownBlock) v311 t310) ∧ Aside0 (Kd.R (Kd.int .i64) 3 wc w.heap.size (fun k_ => some k_ ≠ (v299 : Value).ownBlock ∧ some k_ ≠ (v311 : Value).ownBlock) (.slice Ao33 t304.length co33) t304) ∧ Aside0 (wc.heap[gb288]? = some (.cells #[.int .i64 a0_0, .int .i64 a0_1, (.slice A0_2 l0_2.length c0_2)] 24 (0, 0))) ∧ Aside0 (wc.heap[gb289]? = some (.cells #[.int .i64 a1_0, .int .i64 a1_1] 26 (0, 0))) ∧ Aside0 (wc.heap[gb307]? = some (.cells #[.int .i64 t302, .int .i64 t303, (.slice Ao33 t304.length co33)] 30 (0, 0))) ∧ Aside0 (Below w.heap.size w wc))
 case first =>
  have H := HC16.out
  clear HC16
  replace H := Option.bind_eq_some_iff.mp H
  obtain ⟨t314, A380, H⟩ := H
  replace H : (if t314 = true then (laws_FnExactLongestWalk.j0 k t298 t301 t310 t313 (t313 != t301) a0_0 a0_1 l0_2 a1_0 a1_1 t302 t303 t304) else (laws_FnExactLongestWalk.j0 k t298 t301 t310 t313 true a0_0 a0_1 l0_2 a1_0 a1_1 t302 t303 t304)) = some r := H
  have A38 := Aside0.mk A380
  clear A380
  by_cases c39 : t314 = true
  ·subst c39
   have H1 : (laws_FnExactLongestWalk.j0 k t298 t301 t310 t313 (t313 != t301) a0_0 a0_1 l0_2 a1_0 a1_1 t302 t303 t304) = some r := by rw [if_pos rfl] at H; exact H
   clear H
   have H := H1
   clear H1
   have H' := Aside0.mk H
   clear H
   obtain ⟨Ao40, co40, eo40⟩ := Kd.R_slice HO312.out
   subst eo40
   obtain ⟨Ao41, co41, eo41⟩ := Kd.R_slice HO300.out
   subst eo41
   go_wp2_with (first | ((with_reducible refine gate_callee (f := 10) rfl ?_); refine goesL_ (some 40) rfl rfl Try.func10 (by kernel_rfl) rfl #[.slice Ao40 t310.length co40, .slice Ao41 t298.length co41] rfl zi3 ?_; (with_reducible refine (laws_eqIntS.calls k _ _ t310 _ _ t298 true _ ?side1 ?side2 ?side3 ?side4 A38.out).mono ?_); (case side1 => exact zi31); (case side2 => exact (Kd.R_reads' HO312.out).2.1); (case side3 => exact zi32); (case side4 => exact (Kd.R_reads' HO300.out).2.1); rintro e w' ⟨rfl, ⟨nd, rfl⟩⟩; refine ⟨_, rfl, ?_⟩))
   go_meet
   case rel => exact ⟨_, ((t313 != t301)), zi23, H', ⟨by first | omega | exact Nat.le_refl _⟩, ⟨zi38⟩, ⟨zi36⟩, ⟨zi37⟩, ⟨zi2⟩, ⟨zi4⟩, ⟨zi6⟩, ⟨zi1⟩⟩
  replace c39 := Bool.eq_false_iff.mpr c39
  subst c39
  have H1 : (laws_FnExactLongestWalk.j0 k t298 t301 t310 t313 true a0_0 a0_1 l0_2 a1_0 a1_1 t302 t303 t304) = some r := by rw [if_neg (show ¬ (false = true) by decide)] at H; exact H
  clear H
  have H := H1
  clear H1
  have H' := Aside0.mk H
  clear H
  obtain ⟨Ao42, co42, eo42⟩ := Kd.R_slice HO312.out
  subst eo42
  obtain ⟨Ao43, co43, eo43⟩ := Kd.R_slice HO300.out
  subst eo43
  go_wp2_with (first | ((with_reducible refine gate_callee (f := 10) rfl ?_); refine goesL_ (some 40) rfl rfl Try.func10 (by kernel_rfl) rfl #[.slice Ao42 t310.length co42, .slice Ao43 t298.length co43] rfl zi3 ?_; (with_reducible refine (laws_eqIntS.calls k _ _ t310 _ _ t298 false _ ?side1 ?side2 ?side3 ?side4 A38.out).mono ?_); (case side1 => exact zi31); (case side2 => exact (Kd.R_reads' HO312.out).2.1); (case side3 => exact zi32); (case side4 => exact (Kd.R_reads' HO300.out).2.1); rintro e w' ⟨rfl, ⟨nd, rfl⟩⟩; refine ⟨_, rfl, ?_⟩))
  go_meet
  case rel => exact ⟨_, (true), zi23, H', ⟨by first | omega | exact Nat.le_refl _⟩, ⟨zi38⟩, ⟨zi36⟩, ⟨zi37⟩, ⟨zi2⟩, ⟨zi4⟩, ⟨zi6⟩, ⟨zi1⟩⟩
 case rest =>
  clear HC16
  try clear c1; try clear p2; try clear c3; try clear c4; try clear c4b0; try clear c5; try clear c6; try clear c7; try clear c8; try clear c9; try clear c10; try clear c19; try clear c30; try clear c31; try clear c39; try clear hcz20_0; try clear hcz20_1; try clear hcz20_2; try clear hcz27_0; try clear hcz27_1; try clear hcz27_2; try clear hcz32_0; try clear hcz32_1; try clear hcz32_2; try clear hcz8_0; try clear hcz8_1; try clear hcz8_2; try clear hfz20_0; try clear hfz20_1; try clear hfz20_2; try clear hfz27_0; try clear hfz27_1; try clear hfz27_2; try clear hfz32_0; try clear hfz32_1; try clear hfz32_2
  try clear hfz8_0; try clear hfz8_1; try clear hfz8_2
  obtain ⟨kq, x46_15, rfl, HA, HJ15, HO_6, HO_9, HO_308002, BK288, BK289, BK307, HB⟩ := hcut
  cases kq with
  | zero => exact absurd HA.out (by simp [laws_FnExactLongestWalk.j0])
  | succ kj15 =>
   have H := HA.out
   clear HA
   simp only [laws_FnExactLongestWalk.j0] at H
   by_cases c44 : x46_15 = true
   ·subst c44
    have H1 : (some false) = some r := by rw [if_pos rfl] at H; exact H
    clear H
    have H := H1
    clear H1
    obtain rfl := Option.some.inj H
    go_wp2
    go_ret
    exact ⟨zi12, zi1⟩
   replace c44 := Bool.eq_false_iff.mpr c44
   subst c44
   have H1 : ((laws_toBoard.f kj15 a0_0 a0_1 l0_2).bind fun bt315 => ((laws_eqBoard.f kj15 t302 t303 t304 bt315.1 bt315.2.1 bt315.2.2).bind fun t320 => (if t320 = true then ((laws_markBoard.f kj15 t302 t303 t304 1).bind fun bt321 => (if bt321.1 < 0 then (laws_FnExactLongestWalk.j1 kj15 t298 t301 t310 true a0_0 a0_1 l0_2 a1_0 a1_1) else ((laws_eqIntS.f kj15 t310 t298).bind fun t323 => (if t323 = true then (laws_FnExactLongestWalk.j1 kj15 t298 t301 t310 (t313 != t301) a0_0 a0_1 l0_2 a1_0 a1_1) else (laws_FnExactLongestWalk.j1 kj15 t298 t301 t310 true a0_0 a0_1 l0_2 a1_0 a1_1))))) else (some false)))) = some r := by rw [if_neg (show ¬ (false = true) by decide)] at H; exact H
   clear H
   have H := H1
   clear H1
   replace H := Option.bind_eq_some_iff.mp H
   obtain ⟨⟨t315, t316, t317⟩, A450, H⟩ := H
   replace H : ((laws_eqBoard.f kj15 t302 t303 t304 t315 t316 t317).bind fun t320 => (if t320 = true then ((laws_markBoard.f kj15 t302 t303 t304 1).bind fun bt321 => (if bt321.1 < 0 then (laws_FnExactLongestWalk.j1 kj15 t298 t301 t310 true a0_0 a0_1 l0_2 a1_0 a1_1) else ((laws_eqIntS.f kj15 t310 t298).bind fun t323 => (if t323 = true then (laws_FnExactLongestWalk.j1 kj15 t298 t301 t310 (t313 != t301) a0_0 a0_1 l0_2 a1_0 a1_1) else (laws_FnExactLongestWalk.j1 kj15 t298 t301 t310 true a0_0 a0_1 l0_2 a1_0 a1_1))))) else (some false))) = some r := H
   have A45 := Aside0.mk A450
   clear A450
   replace H := Option.bind_eq_some_iff.mp H
   obtain ⟨t320, A460, H⟩ := H
   replace H : (if t320 = true then ((laws_markBoard.f kj15 t302 t303 t304 1).bind fun bt321 => (if bt321.1 < 0 then (laws_FnExactLongestWalk.j1 kj15 t298 t301 t310 true a0_0 a0_1 l0_2 a1_0 a1_1) else ((laws_eqIntS.f kj15 t310 t298).bind fun t323 => (if t323 = true then (laws_FnExactLongestWalk.j1 kj15 t298 t301 t310 (t313 != t301) a0_0 a0_1 l0_2 a1_0 a1_1) else (laws_FnExactLongestWalk.j1 kj15 t298 t301 t310 true a0_0 a0_1 l0_2 a1_0 a1_1))))) else (some false)) = some r := H
   have A46 := Aside0.mk A460
   clear A460
   by_cases c47 : t320 = true
   rotate_left
   ·replace c47 := Bool.eq_false_iff.mpr c47
    subst c47
    have H1 : (some false) = some r := by rw [if_neg (show ¬ (false = true) by decide)] at H; exact H
    clear H
    have H := H1
    clear H1
    obtain rfl := Option.some.inj H
    try go_wp2
    have n0_ := Aside0.mk (Kd.R_drew HO_6.out)
    have n1_ := Aside0.mk (Kd.R_drew HO_9.out)
    have n2_ := Aside0.mk (Kd.R_drew HO_308002.out)
    have n3_ := Aside0.mk (blk_drew BK288.out)
    have n4_ := Aside0.mk (blk_drew BK289.out)
    have n5_ := Aside0.mk (blk_drew BK307.out)
    have n6_ := Aside0.mk (below_drew1 HB.out)
    clear HO_6
    clear HO_9
    clear HO_308002
    clear BK288
    clear BK289
    clear BK307
    clear HB
    have HO_6 := n0_
    have HO_9 := n1_
    have HO_308002 := n2_
    have BK288 := n3_
    have BK289 := n4_
    have BK307 := n5_
    have HB := n6_
    clear n0_ n1_ n2_ n3_ n4_ n5_ n6_
    refine start_ (n := 5) (S := fun w' => w'.cell? ⟨gb307, 0, none⟩ = some (.int .i64 t302) ∧ w'.cell? ⟨gb307, 1, none⟩ = some (.int .i64 t303) ∧ w'.cell? ⟨gb307, 2, none⟩ = some (.slice Ao33 t304.length co33) ∧ w'.cell? ⟨gb288, 0, none⟩ = some (.int .i64 a0_0) ∧ w'.cell? ⟨gb288, 1, none⟩ = some (.int .i64 a0_1) ∧ w'.cell? ⟨gb288, 2, none⟩ = some (.slice A0_2 l0_2.length c0_2)) (ds := []) #[false, false, false, false, false] (by kernel_rfl) rfl rfl ⟨(blk_cell BK307.out 0).trans rfl, (blk_cell BK307.out 1).trans rfl, (blk_cell BK307.out 2).trans rfl, (blk_cell BK288.out 0).trans rfl, (blk_cell BK288.out 1).trans rfl, (blk_cell BK288.out 2).trans rfl⟩ (fun hHeld => ?_)
    generalize wc.drew = w95 at HO_6 HO_9 HO_308002 BK288 BK289 BK307 HB hHeld ⊢
    refine take_ (i := 0) (N := some 47) (v := ?_) (a' := ?_) #[true, false, false, false, false] rfl rfl (by kernel_rfl) (fun _ _ _ h => h) (Or.inl ⟨by rfl, ?_⟩) hHeld ?_ ?_
    rotate_left
    ·rintro w' ⟨s0, s1, s2, s3, s4, s5⟩
     go_simp
     with_reducible rfl
    rotate_left
    ·simp only [Act.put, List.setIfInBounds_toArray, List.set_cons_zero, List.set_cons_succ, i64_w, i32_w]
     rfl
    refine take_ (i := 1) (N := some 48) (v := ?_) (a' := ?_) #[true, true, false, false, false] rfl rfl (by kernel_rfl) (fun _ _ _ h => h) (Or.inl ⟨by rfl, ?_⟩) hHeld ?_ ?_
    rotate_left
    ·rintro w' ⟨s0, s1, s2, s3, s4, s5⟩
     go_simp
     with_reducible rfl
    rotate_left
    ·simp only [Act.put, List.setIfInBounds_toArray, List.set_cons_zero, List.set_cons_succ, i64_w, i32_w]
     rfl
    refine one_ (i := 2) (N := some 49) #[true, true, true, false, false] rfl rfl (by kernel_rfl) (by decide) (fun K hK => ?_)
    refine goes_ Try.func7 (by kernel_rfl) rfl #[.agg #[.int .i64 a0_0, .int .i64 a0_1, .slice A0_2 l0_2.length c0_2]] (by rfl) rfl rfl zi3 ?_
    with_reducible refine (laws_toBoard.calls kj15 a0_0 a0_1 _ _ l0_2 t315 t316 t317 _ ?side1 ?side2 A45.out).mono ?_
    (case side1 => exact zi11)
    (case side2 => exact HC0_2.out)
    rintro e w96 ⟨v318, rfl, ho0, hb⟩
    refine ⟨_, rfl, ?_⟩
    have n0_ := Aside0.mk (Kd.R_elder' zi10 (Kd.R_base ho0) hb)
    have n1_ := Aside0.mk (Kd.R_elder' zi9 (Kd.R_base ho0) hb)
    have n2_ := Aside0.mk (Kd.R_elder' zi7 (Kd.R_base ho0) hb)
    have n3_ := Aside0.mk (Kd.R_lower (Kd.R_new' (Kd.R_new' (Kd.R_new' ho0 (Kd.R_lt zi10)) (Kd.R_lt zi9)) (Kd.R_lt zi7)) (below_size zi1))
    have n4_ := Aside0.mk (blk_below (g := gb288) (o := .cells #[.int .i64 a0_0, .int .i64 a0_1, .slice A0_2 l0_2.length c0_2] 24 (0, 0)) zi2 hb)
    have n5_ := Aside0.mk (blk_below (g := gb289) (o := .cells #[.int .i64 a1_0, .int .i64 a1_1] 26 (0, 0)) zi4 hb)
    have n6_ := Aside0.mk (blk_below (g := gb307) (o := .cells #[.int .i64 t302, .int .i64 t303, .slice Ao33 t304.length co33] 30 (0, 0)) zi6 hb)
    have n7_ := Aside0.mk (below_step zi1 hb)
    clear HO_6
    clear HO_9
    clear HO_308002
    clear BK288
    clear BK289
    clear BK307
    clear HB
    have HO_6 := n0_
    have HO_9 := n1_
    have HO_308002 := n2_
    have HO319 := n3_
    have BK288 := n4_
    have BK289 := n5_
    have BK307 := n6_
    have HB := n7_
    clear n0_ n1_ n2_ n3_ n4_ n5_ n6_ n7_
    (try clear hb)
    (try clear hb2)
    (try clear hk)
    (try clear hi)
    (try clear ho0)
    (try clear hna_)
    (try clear hnb_)
    obtain ⟨Ao97, co97, eo97⟩ := Kd.R_slice HO319.out
    (first | subst eo97 | (injection eo97 with f1_ f2_ f3_; have f4_ := f1_.symm; have f5_ := f3_.symm; clear f1_ f2_ f3_; subst f4_; subst f5_))
    refine hK.out _ _ ⟨(blk_cell BK307.out 0).trans rfl, (blk_cell BK307.out 1).trans rfl, (blk_cell BK307.out 2).trans rfl, (blk_cell BK288.out 0).trans rfl, (blk_cell BK288.out 1).trans rfl, (blk_cell BK288.out 2).trans rfl⟩ (fun hHeld => ?_)
    clear hK K
    refine norm_ (a' := ?_) ?_ ?_
    rotate_left
    ·show Act.put _ (some 49) _ = _
     simp only [Act.put, List.setIfInBounds_toArray, List.set_cons_zero, List.set_cons_succ, i64_w, i32_w]
     rfl
    refine one_ (i := 3) (N := some 50) #[true, true, true, true, false] rfl rfl (by kernel_rfl) (by decide) (fun K hK => ?_)
    refine goes_ Try.func11 (by kernel_rfl) rfl #[.agg #[.int .i64 t302, .int .i64 t303, .slice Ao33 t304.length co33], .agg #[.int .i64 t315, .int .i64 t316, .slice Ao97 t317.length co97]] (by rfl) rfl rfl zi3 ?_
    with_reducible refine (laws_eqBoard.calls kj15 t302 t303 _ _ t304 t315 t316 _ _ t317 false _ ?side1 ?side2 ?side3 ?side4 A46.out).mono ?_
    (case side1 => exact zi28)
    (case side2 => exact (Kd.R_reads' HO_308002.out).2.1)
    (case side3 => exact zi30)
    (case side4 => exact (Kd.R_reads' HO319.out).2.1)
    rintro e w98 ⟨rfl, hb⟩
    refine ⟨_, rfl, ?_⟩
    have n0_ := Aside0.mk (Kd.R_below zi10 hb)
    have n1_ := Aside0.mk (Kd.R_below zi9 hb)
    have n2_ := Aside0.mk (Kd.R_below zi7 hb)
    have n3_ := Aside0.mk (Kd.R_below (by first | exact HO319.out | ((with_reducible repeat (first | apply Kd.R_alloc | apply Kd.R_drewN | apply Kd.R_drew)); exact HO319.out)) hb)
    have n4_ := Aside0.mk (blk_below (g := gb288) (o := .cells #[.int .i64 a0_0, .int .i64 a0_1, .slice A0_2 l0_2.length c0_2] 24 (0, 0)) zi2 hb)
    have n5_ := Aside0.mk (blk_below (g := gb289) (o := .cells #[.int .i64 a1_0, .int .i64 a1_1] 26 (0, 0)) zi4 hb)
    have n6_ := Aside0.mk (blk_below (g := gb307) (o := .cells #[.int .i64 t302, .int .i64 t303, .slice Ao33 t304.length co33] 30 (0, 0)) zi6 hb)
    have n7_ := Aside0.mk (below_step zi1 hb)
    clear HO_6
    clear HO_9
    clear HO_308002
    clear HO319
    clear BK288
    clear BK289
    clear BK307
    clear HB
    have HO_6 := n0_
    have HO_9 := n1_
    have HO_308002 := n2_
    have HO319 := n3_
    have BK288 := n4_
    have BK289 := n5_
    have BK307 := n6_
    have HB := n7_
    clear n0_ n1_ n2_ n3_ n4_ n5_ n6_ n7_
    (try clear hb)
    (try clear hb2)
    (try clear hk)
    (try clear hi)
    (try clear hna_)
    (try clear hnb_)
    refine hK.out _ _ ⟨(blk_cell BK307.out 0).trans rfl, (blk_cell BK307.out 1).trans rfl, (blk_cell BK307.out 2).trans rfl, (blk_cell BK288.out 0).trans rfl, (blk_cell BK288.out 1).trans rfl, (blk_cell BK288.out 2).trans rfl⟩ (fun hHeld => ?_)
    clear hK K
    refine norm_ (a' := ?_) ?_ ?_
    rotate_left
    ·show Act.put _ (some 50) _ = _
     simp only [Act.put, List.setIfInBounds_toArray, List.set_cons_zero, List.set_cons_succ, i64_w, i32_w]
     rfl
    refine pure_ (i := 4) (N := some 51) (v := ?_) (a' := ?_) #[true, true, true, true, true] rfl rfl (by kernel_rfl) (fun _ _ _ h => h) (Or.inl ⟨by rfl, ?_⟩) ?_ ?_
    rotate_left
    ·intro w'
     go_simp
     with_reducible rfl
    rotate_left
    ·simp only [Act.put, List.setIfInBounds_toArray, List.set_cons_zero, List.set_cons_succ, i64_w, i32_w]
     rfl
    refine done_ (by kernel_rfl) ?_
    try go_wp2
    go_ret
    exact ⟨zi12, zi1⟩
   subst c47
   have H1 : ((laws_markBoard.f kj15 t302 t303 t304 1).bind fun bt321 => (if bt321.1 < 0 then (laws_FnExactLongestWalk.j1 kj15 t298 t301 t310 true a0_0 a0_1 l0_2 a1_0 a1_1) else ((laws_eqIntS.f kj15 t310 t298).bind fun t323 => (if t323 = true then (laws_FnExactLongestWalk.j1 kj15 t298 t301 t310 (t313 != t301) a0_0 a0_1 l0_2 a1_0 a1_1) else (laws_FnExactLongestWalk.j1 kj15 t298 t301 t310 true a0_0 a0_1 l0_2 a1_0 a1_1))))) = some r := by rw [if_pos rfl] at H; exact H
   clear H
   have H := H1
   clear H1
   replace H := Option.bind_eq_some_iff.mp H
   obtain ⟨⟨t321, t322⟩, A480, H⟩ := H
   replace H : (if t321 < 0 then (laws_FnExactLongestWalk.j1 kj15 t298 t301 t310 true a0_0 a0_1 l0_2 a1_0 a1_1) else ((laws_eqIntS.f kj15 t310 t298).bind fun t323 => (if t323 = true then (laws_FnExactLongestWalk.j1 kj15 t298 t301 t310 (t313 != t301) a0_0 a0_1 l0_2 a1_0 a1_1) else (laws_FnExactLongestWalk.j1 kj15 t298 t301 t310 true a0_0 a0_1 l0_2 a1_0 a1_1)))) = some r := H
   have A48 := Aside0.mk A480
   clear A480
   have HC49 := Aside0.mk H
   clear H
   try go_wp2
   have n0_ := Aside0.mk (Kd.R_drew HO_6.out)
   have n1_ := Aside0.mk (Kd.R_drew HO_9.out)
   have n2_ := Aside0.mk (Kd.R_drew HO_308002.out)
   have n3_ := Aside0.mk (blk_drew BK288.out)
   have n4_ := Aside0.mk (blk_drew BK289.out)
   have n5_ := Aside0.mk (blk_drew BK307.out)
   have n6_ := Aside0.mk (below_drew1 HB.out)
   clear HO_6
   clear HO_9
   clear HO_308002
   clear BK288
   clear BK289
   clear BK307
   clear HB
   have HO_6 := n0_
   have HO_9 := n1_
   have HO_308002 := n2_
   have BK288 := n3_
   have BK289 := n4_
   have BK307 := n5_
   have HB := n6_
   clear n0_ n1_ n2_ n3_ n4_ n5_ n6_
   refine start_ (n := 5) (S := fun w' => w'.cell? ⟨gb307, 0, none⟩ = some (.int .i64 t302) ∧ w'.cell? ⟨gb307, 1, none⟩ = some (.int .i64 t303) ∧ w'.cell? ⟨gb307, 2, none⟩ = some (.slice Ao33 t304.length co33) ∧ w'.cell? ⟨gb288, 0, none⟩ = some (.int .i64 a0_0) ∧ w'.cell? ⟨gb288, 1, none⟩ = some (.int .i64 a0_1) ∧ w'.cell? ⟨gb288, 2, none⟩ = some (.slice A0_2 l0_2.length c0_2)) (ds := []) #[false, false, false, false, false] (by kernel_rfl) rfl rfl ⟨(blk_cell BK307.out 0).trans rfl, (blk_cell BK307.out 1).trans rfl, (blk_cell BK307.out 2).trans rfl, (blk_cell BK288.out 0).trans rfl, (blk_cell BK288.out 1).trans rfl, (blk_cell BK288.out 2).trans rfl⟩ (fun hHeld => ?_)
   generalize wc.drew = w50 at HO_6 HO_9 HO_308002 BK288 BK289 BK307 HB hHeld ⊢
   refine take_ (i := 0) (N := some 47) (v := ?_) (a' := ?_) #[true, false, false, false, false] rfl rfl (by kernel_rfl) (fun _ _ _ h => h) (Or.inl ⟨by rfl, ?_⟩) hHeld ?_ ?_
   rotate_left
   ·rintro w' ⟨s0, s1, s2, s3, s4, s5⟩
    go_simp
    with_reducible rfl
   rotate_left
   ·simp only [Act.put, List.setIfInBounds_toArray, List.set_cons_zero, List.set_cons_succ, i64_w, i32_w]
    rfl
   refine take_ (i := 1) (N := some 48) (v := ?_) (a' := ?_) #[true, true, false, false, false] rfl rfl (by kernel_rfl) (fun _ _ _ h => h) (Or.inl ⟨by rfl, ?_⟩) hHeld ?_ ?_
   rotate_left
   ·rintro w' ⟨s0, s1, s2, s3, s4, s5⟩
    go_simp
    with_reducible rfl
   rotate_left
   ·simp only [Act.put, List.setIfInBounds_toArray, List.set_cons_zero, List.set_cons_succ, i64_w, i32_w]
    rfl
   refine one_ (i := 2) (N := some 49) #[true, true, true, false, false] rfl rfl (by kernel_rfl) (by decide) (fun K hK => ?_)
   refine goes_ Try.func7 (by kernel_rfl) rfl #[.agg #[.int .i64 a0_0, .int .i64 a0_1, .slice A0_2 l0_2.length c0_2]] (by rfl) rfl rfl zi3 ?_
   with_reducible refine (laws_toBoard.calls kj15 a0_0 a0_1 _ _ l0_2 t315 t316 t317 _ ?side1 ?side2 A45.out).mono ?_
   (case side1 => exact zi11)
   (case side2 => exact HC0_2.out)
   rintro e w51 ⟨v318, rfl, ho0, hb⟩
   refine ⟨_, rfl, ?_⟩
   have n0_ := Aside0.mk (Kd.R_elder' zi10 (Kd.R_base ho0) hb)
   have n1_ := Aside0.mk (Kd.R_elder' zi9 (Kd.R_base ho0) hb)
   have n2_ := Aside0.mk (Kd.R_elder' zi7 (Kd.R_base ho0) hb)
   have n3_ := Aside0.mk (Kd.R_lower (Kd.R_new' (Kd.R_new' (Kd.R_new' ho0 (Kd.R_lt zi10)) (Kd.R_lt zi9)) (Kd.R_lt zi7)) (below_size zi1))
   have n4_ := Aside0.mk (blk_below (g := gb288) (o := .cells #[.int .i64 a0_0, .int .i64 a0_1, .slice A0_2 l0_2.length c0_2] 24 (0, 0)) zi2 hb)
   have n5_ := Aside0.mk (blk_below (g := gb289) (o := .cells #[.int .i64 a1_0, .int .i64 a1_1] 26 (0, 0)) zi4 hb)
   have n6_ := Aside0.mk (blk_below (g := gb307) (o := .cells #[.int .i64 t302, .int .i64 t303, .slice Ao33 t304.length co33] 30 (0, 0)) zi6 hb)
   have n7_ := Aside0.mk (below_step zi1 hb)
   clear HO_6
   clear HO_9
   clear HO_308002
   clear BK288
   clear BK289
   clear BK307
   clear HB
   have HO_6 := n0_
   have HO_9 := n1_
   have HO_308002 := n2_
   have HO319 := n3_
   have BK288 := n4_
   have BK289 := n5_
   have BK307 := n6_
   have HB := n7_
   clear n0_ n1_ n2_ n3_ n4_ n5_ n6_ n7_
   (try clear hb)
   (try clear hb2)
   (try clear hk)
   (try clear hi)
   (try clear ho0)
   (try clear hna_)
   (try clear hnb_)
   obtain ⟨Ao52, co52, eo52⟩ := Kd.R_slice HO319.out
   (first | subst eo52 | (injection eo52 with f1_ f2_ f3_; have f4_ := f1_.symm; have f5_ := f3_.symm; clear f1_ f2_ f3_; subst f4_; subst f5_))
   refine hK.out _ _ ⟨(blk_cell BK307.out 0).trans rfl, (blk_cell BK307.out 1).trans rfl, (blk_cell BK307.out 2).trans rfl, (blk_cell BK288.out 0).trans rfl, (blk_cell BK288.out 1).trans rfl, (blk_cell BK288.out 2).trans rfl⟩ (fun hHeld => ?_)
   clear hK K
   refine norm_ (a' := ?_) ?_ ?_
   rotate_left
   ·show Act.put _ (some 49) _ = _
    simp only [Act.put, List.setIfInBounds_toArray, List.set_cons_zero, List.set_cons_succ, i64_w, i32_w]
    rfl
   refine one_ (i := 3) (N := some 50) #[true, true, true, true, false] rfl rfl (by kernel_rfl) (by decide) (fun K hK => ?_)
   refine goes_ Try.func11 (by kernel_rfl) rfl #[.agg #[.int .i64 t302, .int .i64 t303, .slice Ao33 t304.length co33], .agg #[.int .i64 t315, .int .i64 t316, .slice Ao52 t317.length co52]] (by rfl) rfl rfl zi3 ?_
   with_reducible refine (laws_eqBoard.calls kj15 t302 t303 _ _ t304 t315 t316 _ _ t317 true _ ?side1 ?side2 ?side3 ?side4 A46.out).mono ?_
   (case side1 => exact zi28)
   (case side2 => exact (Kd.R_reads' HO_308002.out).2.1)
   (case side3 => exact zi30)
   (case side4 => exact (Kd.R_reads' HO319.out).2.1)
   rintro e w53 ⟨rfl, hb⟩
   refine ⟨_, rfl, ?_⟩
   have n0_ := Aside0.mk (Kd.R_below zi10 hb)
   have n1_ := Aside0.mk (Kd.R_below zi9 hb)
   have n2_ := Aside0.mk (Kd.R_below zi7 hb)
   have n3_ := Aside0.mk (Kd.R_below (by first | exact HO319.out | ((with_reducible repeat (first | apply Kd.R_alloc | apply Kd.R_drewN | apply Kd.R_drew)); exact HO319.out)) hb)
   have n4_ := Aside0.mk (blk_below (g := gb288) (o := .cells #[.int .i64 a0_0, .int .i64 a0_1, .slice A0_2 l0_2.length c0_2] 24 (0, 0)) zi2 hb)
   have n5_ := Aside0.mk (blk_below (g := gb289) (o := .cells #[.int .i64 a1_0, .int .i64 a1_1] 26 (0, 0)) zi4 hb)
   have n6_ := Aside0.mk (blk_below (g := gb307) (o := .cells #[.int .i64 t302, .int .i64 t303, .slice Ao33 t304.length co33] 30 (0, 0)) zi6 hb)
   have n7_ := Aside0.mk (below_step zi1 hb)
   clear HO_6
   clear HO_9
   clear HO_308002
   clear HO319
   clear BK288
   clear BK289
   clear BK307
   clear HB
   have HO_6 := n0_
   have HO_9 := n1_
   have HO_308002 := n2_
   have HO319 := n3_
   have BK288 := n4_
   have BK289 := n5_
   have BK307 := n6_
   have HB := n7_
   clear n0_ n1_ n2_ n3_ n4_ n5_ n6_ n7_
   (try clear hb)
   (try clear hb2)
   (try clear hk)
   (try clear hi)
   (try clear hna_)
   (try clear hnb_)
   refine hK.out _ _ ⟨(blk_cell BK307.out 0).trans rfl, (blk_cell BK307.out 1).trans rfl, (blk_cell BK307.out 2).trans rfl, (blk_cell BK288.out 0).trans rfl, (blk_cell BK288.out 1).trans rfl, (blk_cell BK288.out 2).trans rfl⟩ (fun hHeld => ?_)
   clear hK K
   refine norm_ (a' := ?_) ?_ ?_
   rotate_left
   ·show Act.put _ (some 50) _ = _
    simp only [Act.put, List.setIfInBounds_toArray, List.set_cons_zero, List.set_cons_succ, i64_w, i32_w]
    rfl
   refine pure_ (i := 4) (N := some 51) (v := ?_) (a' := ?_) #[true, true, true, true, true] rfl rfl (by kernel_rfl) (fun _ _ _ h => h) (Or.inl ⟨by rfl, ?_⟩) ?_ ?_
   rotate_left
   ·intro w'
    go_simp
    with_reducible rfl
   rotate_left
   ·simp only [Act.put, List.setIfInBounds_toArray, List.set_cons_zero, List.set_cons_succ, i64_w, i32_w]
    rfl
   refine done_ (by kernel_rfl) ?_
   have hnb54 := NB307_288.out
   have hnc54 := NB288_307.out
   have hnb55 := NB307_289.out
   have hnc55 := NB289_307.out
   have hcz56_0 : w53.cell? ⟨gb307, 0, none⟩ = some (.int .i64 t302) := (blk_cell BK307.out 0).trans rfl
   have hcz56_1 : w53.cell? ⟨gb307, 1, none⟩ = some (.int .i64 t303) := (blk_cell BK307.out 1).trans rfl
   have hcz56_2 : w53.cell? ⟨gb307, 2, none⟩ = some (.slice Ao33 t304.length co33) := (blk_cell BK307.out 2).trans rfl
   have hfz56_0 := blk_frozen BK307.out 0
   have hfz56_1 := blk_frozen BK307.out 1
   have hfz56_2 := blk_frozen BK307.out 2
   go_upto_region 14 with (first | ((with_reducible refine gate_callee (f := 12) rfl ?_); refine goesL_ (some 54) rfl rfl Try.func12 (by kernel_rfl) rfl #[.agg #[.int .i64 t302, .int .i64 t303, .slice Ao33 t304.length co33], .int .i64 1] rfl zi3 ?_; (with_reducible refine (laws_markBoard.calls kj15 t302 t303 (fun k_ => some k_ = (.slice Ao33 t304.length co33 : Value).ownBlock) (.slice Ao33 t304.length co33) t304 1 t321 t322 w _ ?side1 ?side2 A48.out).mono ?_); (case side1 => exact zi1); (case side2 => exact Kd.R_tight rfl HO_308002.out); rintro e w57 ⟨rfl, hy0, hb, hkp⟩; refine ⟨_, rfl, ?_⟩; have n0_ := Aside0.mk (Kd.R_mono (ok' := fun k_ => some k_ ≠ (v311 : Value).ownBlock ∧ some k_ ≠ (.slice Ao33 t304.length co33 : Value).ownBlock ∧ some k_ ≠ (.slice Ao52 t317.length co52 : Value).ownBlock) (Kd.R_keptB (HO_6.out) hkp (fun k_ hk_ hs_ => (hk_.1.2) hs_)) (fun k_ hk_ => ⟨hk_.1.1.1, hk_.1.1.2, hk_.1.2⟩)); have n1_ := Aside0.mk (Kd.R_mono (ok' := fun k_ => some k_ ≠ (v299 : Value).ownBlock ∧ some k_ ≠ (.slice Ao33 t304.length co33 : Value).ownBlock ∧ some k_ ≠ (.slice Ao52 t317.length co52 : Value).ownBlock) (Kd.R_keptB (HO_9.out) hkp (fun k_ hk_ hs_ => (hk_.1.2) hs_)) (fun k_ hk_ => ⟨hk_.1.1.1, hk_.1.1.2, hk_.1.2⟩)); have n2_ := Aside0.mk (Kd.R_reok rfl hy0 (fun k_ e_ => HO_308002.out.1 k_ e_)); have n3_ := Aside0.mk (blk_kept zi2 hkp (fun hs_ => (fun e_ => (Kd.R_ne HO_308002.out BK288.out (by decide)) e_) hs_)); have n4_ := Aside0.mk (blk_kept zi4 hkp (fun hs_ => (fun e_ => (Kd.R_ne HO_308002.out BK289.out (by decide)) e_) hs_)); have n5_ := Aside0.mk (blk_kept zi6 hkp (fun hs_ => (fun e_ => (Kd.R_ne HO_308002.out BK307.out (by decide)) e_) hs_)); have n6_ := Aside0.mk (Kd.R_mono (ok' := fun k_ => some k_ ≠ (v299 : Value).ownBlock ∧ some k_ ≠ (v311 : Value).ownBlock ∧ some k_ ≠ (.slice Ao33 t304.length co33 : Value).ownBlock) (Kd.R_keptB (HO319.out) hkp (fun k_ hk_ hs_ => (hk_.2) hs_)) (fun k_ hk_ => ⟨hk_.1.1.1.2, hk_.1.1.2, hk_.1.2⟩)); have n7_ := Aside0.mk (hb); clear HO_6; clear HO_9; clear HO_308002; clear BK288; clear BK289; clear BK307; clear HO319; clear HB; have HO_6 := n0_; have HO_9 := n1_; have HO_308002 := n2_; have BK288 := n3_; have BK289 := n4_; have BK307 := n5_; have HO319 := n6_; have HB := n7_; clear n0_ n1_ n2_ n3_ n4_ n5_ n6_ n7_; (try clear hb); (try clear hkp); (try clear hy0)))
   (try simp only [Act.put, List.setIfInBounds_toArray, List.set_cons_zero, List.set_cons_succ])
   go_cut [67] (fun v67 wc => ∃ (kq : Nat) (x67_48 : Bool), v67 = .bool x67_48 ∧ Aside0 (laws_FnExactLongestWalk.j1 kq t298 t301 t310 x67_48 a0_0 a0_1 l0_2 a1_0 a1_1 = some r) ∧ Aside0 (kq ≤ kj15) ∧ Aside0 (Kd.R (Kd.int .i64) 3 wc w.heap.size (fun k_ => some k_ ≠ (v311 : Value).ownBlock ∧ some k_ ≠ ((.slice Ao33 t304.length co33) : Value).ownBlock) v299 t298) ∧ Aside0 (Kd.R (Kd.int .i64) 3 wc w.heap.size (fun k_ => some k_ ≠ (v299 : Value).ownBlock ∧ some k_ ≠ ((.slice Ao33 t304.length co33) : Value).ownBlock) v311 t310) ∧ Aside0 (Kd.R (Kd.int .i64) 3 wc w.heap.size (fun k_ => some k_ ≠ (v299 : Value).ownBlock ∧ some k_ ≠ (v311 : Value).ownBlock) (.slice Ao33 t304.length co33) t322) ∧ Aside0 (wc.heap[gb288]? = some (.cells #[.int .i64 a0_0, .int .i64 a0_1, (.slice A0_2 l0_2.length c0_2)] 24 (0, 0))) ∧ Aside0 (wc.heap[gb289]? = some (.cells #[.int .i64 a1_0, .int .i64 a1_1] 26 (0, 0))) ∧ Aside0 (wc.heap[gb307]? = some (.cells #[.int .i64 t302, .int .i64 t303, (.slice Ao33 t304.length co33)] 30 (0, 0))) ∧ Aside0 (Below w.heap.size w wc))
   case first =>
    have H := HC49.out
    clear HC49
    by_cases c58 : t321 < 0
    ·rw [if_pos c58] at H
     have c58b0 : decide (t321 < 0) = true := decide_eq_true c58
     clear c58
     (first | rw [c58b0] | (simp only [i64_w, i32_w]; rw [c58b0]) | skip)
     have H' := Aside0.mk H
     clear H
     go_wp2
     go_meet
     case rel => exact ⟨_, (true), zi23, H', ⟨by have := HJ15.out; first | omega | exact Nat.le_refl _⟩, ⟨zi22⟩, ⟨zi21⟩, ⟨zi20⟩, ⟨zi2⟩, ⟨zi4⟩, ⟨zi6⟩, ⟨zi1⟩⟩
    rw [if_neg c58] at H
    have c58b0 : decide (t321 < 0) = false := decide_eq_false c58
    clear c58
    (first | rw [c58b0] | (simp only [i64_w, i32_w]; rw [c58b0]) | skip)
    replace H := Option.bind_eq_some_iff.mp H
    obtain ⟨t323, A590, H⟩ := H
    replace H : (if t323 = true then (laws_FnExactLongestWalk.j1 kj15 t298 t301 t310 (t313 != t301) a0_0 a0_1 l0_2 a1_0 a1_1) else (laws_FnExactLongestWalk.j1 kj15 t298 t301 t310 true a0_0 a0_1 l0_2 a1_0 a1_1)) = some r := H
    have A59 := Aside0.mk A590
    clear A590
    by_cases c60 : t323 = true
    ·subst c60
     have H1 : (laws_FnExactLongestWalk.j1 kj15 t298 t301 t310 (t313 != t301) a0_0 a0_1 l0_2 a1_0 a1_1) = some r := by rw [if_pos rfl] at H; exact H
     clear H
     have H := H1
     clear H1
     have H' := Aside0.mk H
     clear H
     obtain ⟨Ao61, co61, eo61⟩ := Kd.R_slice HO_9.out
     subst eo61
     obtain ⟨Ao62, co62, eo62⟩ := Kd.R_slice HO_6.out
     subst eo62
     go_wp2_with (first | (go_at_call 10; (with_reducible refine (laws_eqIntS.calls kj15 _ _ t310 _ _ t298 true _ ?side1 ?side2 ?side3 ?side4 A59.out).mono ?_); (case side1 => exact zi8); (case side2 => exact (Kd.R_reads' HO_9.out).2.1); (case side3 => exact zi17); (case side4 => exact (Kd.R_reads' HO_6.out).2.1); rintro e w' ⟨rfl, ⟨nd, rfl⟩⟩))
     go_meet
     case rel => exact ⟨_, ((t313 != t301)), zi23, H', ⟨by have := HJ15.out; first | omega | exact Nat.le_refl _⟩, ⟨zi22⟩, ⟨zi21⟩, ⟨zi20⟩, ⟨zi2⟩, ⟨zi4⟩, ⟨zi6⟩, ⟨zi1⟩⟩
    replace c60 := Bool.eq_false_iff.mpr c60
    subst c60
    have H1 : (laws_FnExactLongestWalk.j1 kj15 t298 t301 t310 true a0_0 a0_1 l0_2 a1_0 a1_1) = some r := by rw [if_neg (show ¬ (false = true) by decide)] at H; exact H
    clear H
    have H := H1
    clear H1
    have H' := Aside0.mk H
    clear H
    obtain ⟨Ao63, co63, eo63⟩ := Kd.R_slice HO_9.out
    subst eo63
    obtain ⟨Ao64, co64, eo64⟩ := Kd.R_slice HO_6.out
    subst eo64
    go_wp2_with (first | (go_at_call 10; (with_reducible refine (laws_eqIntS.calls kj15 _ _ t310 _ _ t298 false _ ?side1 ?side2 ?side3 ?side4 A59.out).mono ?_); (case side1 => exact zi8); (case side2 => exact (Kd.R_reads' HO_9.out).2.1); (case side3 => exact zi17); (case side4 => exact (Kd.R_reads' HO_6.out).2.1); rintro e w' ⟨rfl, ⟨nd, rfl⟩⟩))
    go_meet
    case rel => exact ⟨_, (true), zi23, H', ⟨by have := HJ15.out; first | omega | exact Nat.le_refl _⟩, ⟨zi22⟩, ⟨zi21⟩, ⟨zi20⟩, ⟨zi2⟩, ⟨zi4⟩, ⟨zi6⟩, ⟨zi1⟩⟩
   case rest =>
    clear HC49
    try clear c1; try clear p2; try clear c3; try clear c4; try clear c4b0; try clear c5; try clear c6; try clear c7; try clear c8; try clear c9; try clear c10; try clear c11; try clear c12; try clear c19; try clear c30; try clear c31; try clear c39; try clear c44; try clear c47; try clear c54; try clear c55; try clear c58; try clear c58b0; try clear c60; try clear hcz20_0; try clear hcz20_1; try clear hcz20_2; try clear hcz27_0; try clear hcz27_1; try clear hcz27_2; try clear hcz32_0; try clear hcz32_1; try clear hcz32_2; try clear hcz56_0; try clear hcz56_1; try clear hcz56_2; try clear hcz8_0; try clear hcz8_1
    try clear hcz8_2; try clear hfz20_0; try clear hfz20_1; try clear hfz20_2; try clear hfz27_0; try clear hfz27_1; try clear hfz27_2; try clear hfz32_0; try clear hfz32_1; try clear hfz32_2; try clear hfz56_0; try clear hfz56_1; try clear hfz56_2; try clear hfz8_0; try clear hfz8_1; try clear hfz8_2; try clear p2
    obtain ⟨kq, x67_48, rfl, HA, HJ48, HO_6, HO_9, HO_308002, BK288, BK289, BK307, HB⟩ := hcut
    have hl308002_48 := (Kd.R_reads' HO_308002.out).1
    rw [hl308002_48] at HO_308002
    (try simp only [hl308002_48])
    (try simp only [hl308002_48] at BK288)
    (try simp only [hl308002_48] at BK289)
    (try simp only [hl308002_48] at BK307)
    (try simp only [hl308002_48] at HO_6)
    (try simp only [hl308002_48] at HO_9)
    cases kq with
    | zero => exact absurd HA.out (by simp [laws_FnExactLongestWalk.j1])
    | succ kj48 =>
     have H := HA.out
     clear HA
     simp only [laws_FnExactLongestWalk.j1] at H
     by_cases c65 : x67_48 = true
     ·subst c65
      have H1 : (some false) = some r := by rw [if_pos rfl] at H; exact H
      clear H
      have H := H1
      clear H1
      obtain rfl := Option.some.inj H
      go_wp2
      go_ret
      exact ⟨zi12, zi1⟩
     replace c65 := Bool.eq_false_iff.mpr c65
     subst c65
     have H1 : ((laws_markIntS.f kj48 t310 1).bind fun bt324 => ((laws_heldIntS.f kj48 bt324.2 1).bind fun t326 => (if t326 < 0 then (some false) else (if t326 = bt324.1 then ((laws_toBoard.f kj48 a0_0 a0_1 l0_2).bind fun bt327 => ((laws_toLeaper.f a1_0 a1_1).bind fun bt332 => ((impl_LongestWalk.f kj48 bt327.1 bt327.2.1 bt327.2.2 bt332.1 bt332.2).bind fun bt334 => ((laws_eqIntS.f kj48 bt334.1 t298).bind fun t338 => (if t338 = true then (laws_FnExactLongestWalk.j2 kj48 bt324.2 bt324.1 (bt334.2 != t301)) else (laws_FnExactLongestWalk.j2 kj48 bt324.2 bt324.1 true)))))) else (some false))))) = some r := by rw [if_neg (show ¬ (false = true) by decide)] at H; exact H
     clear H
     have H := H1
     clear H1
     replace H := Option.bind_eq_some_iff.mp H
     obtain ⟨⟨t324, t325⟩, A660, H⟩ := H
     replace H : ((laws_heldIntS.f kj48 t325 1).bind fun t326 => (if t326 < 0 then (some false) else (if t326 = t324 then ((laws_toBoard.f kj48 a0_0 a0_1 l0_2).bind fun bt327 => ((laws_toLeaper.f a1_0 a1_1).bind fun bt332 => ((impl_LongestWalk.f kj48 bt327.1 bt327.2.1 bt327.2.2 bt332.1 bt332.2).bind fun bt334 => ((laws_eqIntS.f kj48 bt334.1 t298).bind fun t338 => (if t338 = true then (laws_FnExactLongestWalk.j2 kj48 t325 t324 (bt334.2 != t301)) else (laws_FnExactLongestWalk.j2 kj48 t325 t324 true)))))) else (some false)))) = some r := H
     have A66 := Aside0.mk A660
     clear A660
     replace H := Option.bind_eq_some_iff.mp H
     obtain ⟨t326, A670, H⟩ := H
     replace H : (if t326 < 0 then (some false) else (if t326 = t324 then ((laws_toBoard.f kj48 a0_0 a0_1 l0_2).bind fun bt327 => ((laws_toLeaper.f a1_0 a1_1).bind fun bt332 => ((impl_LongestWalk.f kj48 bt327.1 bt327.2.1 bt327.2.2 bt332.1 bt332.2).bind fun bt334 => ((laws_eqIntS.f kj48 bt334.1 t298).bind fun t338 => (if t338 = true then (laws_FnExactLongestWalk.j2 kj48 t325 t324 (bt334.2 != t301)) else (laws_FnExactLongestWalk.j2 kj48 t325 t324 true)))))) else (some false))) = some r := H
     have A67 := Aside0.mk A670
     clear A670
     by_cases c68 : t326 < 0
     ·rw [if_pos c68] at H
      have c68b0 : decide (t326 < 0) = true := decide_eq_true c68
      clear c68
      obtain rfl := Option.some.inj H
      obtain ⟨Ao69, co69, eo69⟩ := Kd.R_slice HO_9.out
      subst eo69
      go_wp2_with (first | ((with_reducible refine gate_callee (f := 13) rfl ?_); refine goesL_ (some 70) rfl rfl Try.func13 (by kernel_rfl) rfl #[.slice Ao69 t310.length co69, .int .i64 1] rfl zi3 ?_; (with_reducible refine (laws_markIntS.calls kj48 (fun k_ => some k_ = (.slice Ao69 t310.length co69 : Value).ownBlock) (.slice Ao69 t310.length co69) t310 1 t324 t325 w _ ?side1 ?side2 A66.out).mono ?_); (case side1 => exact zi1); (case side2 => exact Kd.R_tight rfl HO_9.out); rintro e w70 ⟨rfl, hy0, hb, hkp⟩; refine ⟨_, rfl, ?_⟩; have n0_ := Aside0.mk (Kd.R_mono (ok' := fun k_ => some k_ ≠ (.slice Ao69 t310.length co69 : Value).ownBlock ∧ some k_ ≠ (.slice Ao33 t322.length co33 : Value).ownBlock) (Kd.R_keptB (HO_6.out) hkp (fun k_ hk_ hs_ => (hk_.1) hs_)) (fun k_ hk_ => ⟨hk_.1.1, hk_.1.2⟩)); have n1_ := Aside0.mk (Kd.R_reok rfl hy0 (fun k_ e_ => HO_9.out.1 k_ e_)); have n2_ := Aside0.mk (Kd.R_mono (ok' := fun k_ => some k_ ≠ (v299 : Value).ownBlock ∧ some k_ ≠ (.slice Ao69 t310.length co69 : Value).ownBlock) (Kd.R_keptB (HO_308002.out) hkp (fun k_ hk_ hs_ => (hk_.2) hs_)) (fun k_ hk_ => ⟨hk_.1.1, hk_.1.2⟩)); have n3_ := Aside0.mk (blk_kept zi2 hkp (fun hs_ => (fun e_ => (Kd.R_ne HO_9.out BK288.out (by decide)) e_) hs_)); have n4_ := Aside0.mk (blk_kept zi4 hkp (fun hs_ => (fun e_ => (Kd.R_ne HO_9.out BK289.out (by decide)) e_) hs_)); have n5_ := Aside0.mk (blk_kept zi6 hkp (fun hs_ => (fun e_ => (Kd.R_ne HO_9.out BK307.out (by decide)) e_) hs_)); have n6_ := Aside0.mk (hb); clear HO_6; clear HO_9; clear HO_308002; clear BK288; clear BK289; clear BK307; clear HB; have HO_6 := n0_; have HO_9 := n1_; have HO_308002 := n2_; have BK288 := n3_; have BK289 := n4_; have BK307 := n5_; have HB := n6_; clear n0_ n1_ n2_ n3_ n4_ n5_ n6_; (try clear hb); (try clear hkp); (try clear hy0)) | ((with_reducible refine gate_callee (f := 14) rfl ?_); refine goesL_ (some 73) rfl rfl Try.func14 (by kernel_rfl) rfl #[.slice Ao69 t325.length co69, .int .i64 1] rfl zi18 ?_; (with_reducible refine (laws_heldIntS.calls kj48 _ _ t325 1 t326 _ ?side1 ?side2 A67.out).mono ?_); (case side1 => exact zi8); (case side2 => exact zi25); rintro e w' ⟨rfl, ⟨nd, rfl⟩⟩; refine ⟨_, rfl, ?_⟩))
      go_ret
      exact ⟨zi12, zi1⟩
     rw [if_neg c68] at H
     have c68b0 : decide (t326 < 0) = false := decide_eq_false c68
     clear c68
     by_cases c71 : t326 = t324
     rotate_left
     ·rw [if_neg c71] at H
      have c71b0 : (t326 == t324) = false := beq_eq_false_iff_ne.mpr c71
      have c71b1 : (t326 != t324) = true := bne_iff_ne.mpr c71
      obtain rfl := Option.some.inj H
      obtain ⟨Ao93, co93, eo93⟩ := Kd.R_slice HO_9.out
      subst eo93
      go_wp2_with (first | ((with_reducible refine gate_callee (f := 13) rfl ?_); refine goesL_ (some 70) rfl rfl Try.func13 (by kernel_rfl) rfl #[.slice Ao93 t310.length co93, .int .i64 1] rfl zi3 ?_; (with_reducible refine (laws_markIntS.calls kj48 (fun k_ => some k_ = (.slice Ao93 t310.length co93 : Value).ownBlock) (.slice Ao93 t310.length co93) t310 1 t324 t325 w _ ?side1 ?side2 A66.out).mono ?_); (case side1 => exact zi1); (case side2 => exact Kd.R_tight rfl HO_9.out); rintro e w94 ⟨rfl, hy0, hb, hkp⟩; refine ⟨_, rfl, ?_⟩; have n0_ := Aside0.mk (Kd.R_mono (ok' := fun k_ => some k_ ≠ (.slice Ao93 t310.length co93 : Value).ownBlock ∧ some k_ ≠ (.slice Ao33 t322.length co33 : Value).ownBlock) (Kd.R_keptB (HO_6.out) hkp (fun k_ hk_ hs_ => (hk_.1) hs_)) (fun k_ hk_ => ⟨hk_.1.1, hk_.1.2⟩)); have n1_ := Aside0.mk (Kd.R_reok rfl hy0 (fun k_ e_ => HO_9.out.1 k_ e_)); have n2_ := Aside0.mk (Kd.R_mono (ok' := fun k_ => some k_ ≠ (v299 : Value).ownBlock ∧ some k_ ≠ (.slice Ao93 t310.length co93 : Value).ownBlock) (Kd.R_keptB (HO_308002.out) hkp (fun k_ hk_ hs_ => (hk_.2) hs_)) (fun k_ hk_ => ⟨hk_.1.1, hk_.1.2⟩)); have n3_ := Aside0.mk (blk_kept zi2 hkp (fun hs_ => (fun e_ => (Kd.R_ne HO_9.out BK288.out (by decide)) e_) hs_)); have n4_ := Aside0.mk (blk_kept zi4 hkp (fun hs_ => (fun e_ => (Kd.R_ne HO_9.out BK289.out (by decide)) e_) hs_)); have n5_ := Aside0.mk (blk_kept zi6 hkp (fun hs_ => (fun e_ => (Kd.R_ne HO_9.out BK307.out (by decide)) e_) hs_)); have n6_ := Aside0.mk (hb); clear HO_6; clear HO_9; clear HO_308002; clear BK288; clear BK289; clear BK307; clear HB; have HO_6 := n0_; have HO_9 := n1_; have HO_308002 := n2_; have BK288 := n3_; have BK289 := n4_; have BK307 := n5_; have HB := n6_; clear n0_ n1_ n2_ n3_ n4_ n5_ n6_; (try clear hb); (try clear hkp); (try clear hy0)) | ((with_reducible refine gate_callee (f := 14) rfl ?_); refine goesL_ (some 73) rfl rfl Try.func14 (by kernel_rfl) rfl #[.slice Ao93 t325.length co93, .int .i64 1] rfl zi18 ?_; (with_reducible refine (laws_heldIntS.calls kj48 _ _ t325 1 t326 _ ?side1 ?side2 A67.out).mono ?_); (case side1 => exact zi8); (case side2 => exact zi25); rintro e w' ⟨rfl, ⟨nd, rfl⟩⟩; refine ⟨_, rfl, ?_⟩))
      go_ret
      exact ⟨zi12, zi1⟩
     rw [if_pos c71] at H
     have c71b0 : (t326 == t324) = true := beq_iff_eq.mpr c71
     have c71b1 : (t326 != t324) = false := bne_eq_false_iff_eq.mpr c71
     clear c71
     replace H := Option.bind_eq_some_iff.mp H
     obtain ⟨⟨t327, t328, t329⟩, A720, H⟩ := H
     replace H : ((laws_toLeaper.f a1_0 a1_1).bind fun bt332 => ((impl_LongestWalk.f kj48 t327 t328 t329 bt332.1 bt332.2).bind fun bt334 => ((laws_eqIntS.f kj48 bt334.1 t298).bind fun t338 => (if t338 = true then (laws_FnExactLongestWalk.j2 kj48 t325 t324 (bt334.2 != t301)) else (laws_FnExactLongestWalk.j2 kj48 t325 t324 true))))) = some r := H
     have A72 := Aside0.mk A720
     clear A720
     replace H := Option.bind_eq_some_iff.mp H
     obtain ⟨⟨t332, t333⟩, A730, H⟩ := H
     replace H : ((impl_LongestWalk.f kj48 t327 t328 t329 t332 t333).bind fun bt334 => ((laws_eqIntS.f kj48 bt334.1 t298).bind fun t338 => (if t338 = true then (laws_FnExactLongestWalk.j2 kj48 t325 t324 (bt334.2 != t301)) else (laws_FnExactLongestWalk.j2 kj48 t325 t324 true)))) = some r := H
     have A73 := Aside0.mk A730
     clear A730
     replace H := Option.bind_eq_some_iff.mp H
     obtain ⟨⟨t334, t337⟩, A740, H⟩ := H
     replace H : ((laws_eqIntS.f kj48 t334 t298).bind fun t338 => (if t338 = true then (laws_FnExactLongestWalk.j2 kj48 t325 t324 (t337 != t301)) else (laws_FnExactLongestWalk.j2 kj48 t325 t324 true))) = some r := H
     have A74 := Aside0.mk A740
     clear A740
     have HC75 := Aside0.mk H
     clear H
     obtain ⟨Ao76, co76, eo76⟩ := Kd.R_slice HO_9.out
     subst eo76
     try go_wp2_with (first | ((with_reducible refine gate_callee (f := 13) rfl ?_); refine goesL_ (some 70) rfl rfl Try.func13 (by kernel_rfl) rfl #[.slice Ao76 t310.length co76, .int .i64 1] rfl zi3 ?_; (with_reducible refine (laws_markIntS.calls kj48 (fun k_ => some k_ = (.slice Ao76 t310.length co76 : Value).ownBlock) (.slice Ao76 t310.length co76) t310 1 t324 t325 w _ ?side1 ?side2 A66.out).mono ?_); (case side1 => exact zi1); (case side2 => exact Kd.R_tight rfl HO_9.out); rintro e w77 ⟨rfl, hy0, hb, hkp⟩; refine ⟨_, rfl, ?_⟩; have n0_ := Aside0.mk (Kd.R_mono (ok' := fun k_ => some k_ ≠ (.slice Ao76 t310.length co76 : Value).ownBlock ∧ some k_ ≠ (.slice Ao33 t322.length co33 : Value).ownBlock) (Kd.R_keptB (HO_6.out) hkp (fun k_ hk_ hs_ => (hk_.1) hs_)) (fun k_ hk_ => ⟨hk_.1.1, hk_.1.2⟩)); have n1_ := Aside0.mk (Kd.R_reok rfl hy0 (fun k_ e_ => HO_9.out.1 k_ e_)); have n2_ := Aside0.mk (Kd.R_mono (ok' := fun k_ => some k_ ≠ (v299 : Value).ownBlock ∧ some k_ ≠ (.slice Ao76 t310.length co76 : Value).ownBlock) (Kd.R_keptB (HO_308002.out) hkp (fun k_ hk_ hs_ => (hk_.2) hs_)) (fun k_ hk_ => ⟨hk_.1.1, hk_.1.2⟩)); have n3_ := Aside0.mk (blk_kept zi2 hkp (fun hs_ => (fun e_ => (Kd.R_ne HO_9.out BK288.out (by decide)) e_) hs_)); have n4_ := Aside0.mk (blk_kept zi4 hkp (fun hs_ => (fun e_ => (Kd.R_ne HO_9.out BK289.out (by decide)) e_) hs_)); have n5_ := Aside0.mk (blk_kept zi6 hkp (fun hs_ => (fun e_ => (Kd.R_ne HO_9.out BK307.out (by decide)) e_) hs_)); have n6_ := Aside0.mk (hb); clear HO_6; clear HO_9; clear HO_308002; clear BK288; clear BK289; clear BK307; clear HB; have HO_6 := n0_; have HO_9 := n1_; have HO_308002 := n2_; have BK288 := n3_; have BK289 := n4_; have BK307 := n5_; have HB := n6_; clear n0_ n1_ n2_ n3_ n4_ n5_ n6_; (try clear hb); (try clear hkp); (try clear hy0)) | ((with_reducible refine gate_callee (f := 14) rfl ?_); refine goesL_ (some 73) rfl rfl Try.func14 (by kernel_rfl) rfl #[.slice Ao76 t325.length co76, .int .i64 1] rfl zi18 ?_; (with_reducible refine (laws_heldIntS.calls kj48 _ _ t325 1 t326 _ ?side1 ?side2 A67.out).mono ?_); (case side1 => exact zi8); (case side2 => exact zi25); rintro e w' ⟨rfl, ⟨nd, rfl⟩⟩; refine ⟨_, rfl, ?_⟩))
     (try (rw [drewN_self w77]; generalize hq_ : World.drewN w77 _ = w77; have n0_ : Aside0 (Kd.R (Kd.int .i64) 3 w77 w.heap.size (fun k_ => (some k_ ≠ (v299 : Value).ownBlock ∧ some k_ ≠ (.slice Ao76 t310.length co76 : Value).ownBlock)) (.slice Ao33 t322.length co33) t322) := ⟨by rw [← hq_]; exact zi7⟩; have n1_ : Aside0 (Kd.R (Kd.int .i64) 3 w77 w.heap.size (fun k_ => (some k_ ≠ (.slice Ao76 t310.length co76 : Value).ownBlock ∧ some k_ ≠ (.slice Ao33 t322.length co33 : Value).ownBlock)) v299 t298) := ⟨by rw [← hq_]; exact zi10⟩; have n2_ : Aside0 (Kd.R (Kd.int .i64) 3 w77 w.heap.size (fun k_ => (some k_ ≠ (v299 : Value).ownBlock ∧ some k_ ≠ (.slice Ao33 t322.length co33 : Value).ownBlock)) (.slice Ao76 t310.length co76) t325) := ⟨by rw [← hq_]; exact zi9⟩; have n3_ : Aside0 (w77.heap[gb288]? = some (.cells #[.int .i64 a0_0, .int .i64 a0_1, .slice A0_2 l0_2.length c0_2] 24 (0, 0))) := ⟨by rw [← hq_]; exact zi2⟩; have n4_ : Aside0 (w77.heap[gb289]? = some (.cells #[.int .i64 a1_0, .int .i64 a1_1] 26 (0, 0))) := ⟨by rw [← hq_]; exact zi4⟩; have n5_ : Aside0 (w77.heap[gb307]? = some (.cells #[.int .i64 t302, .int .i64 t303, .slice Ao33 t322.length co33] 30 (0, 0))) := ⟨by rw [← hq_]; exact zi6⟩; have n6_ : Aside0 (Below w.heap.size w w77) := ⟨by rw [← hq_]; exact zi1⟩; clear HO_308002 HO_6 HO_9 BK288 BK289 BK307 HB hq_; have HO_308002 := n0_; have HO_6 := n1_; have HO_9 := n2_; have BK288 := n3_; have BK289 := n4_; have BK307 := n5_; have HB := n6_; clear n0_ n1_ n2_ n3_ n4_ n5_ n6_))
     have n0_ := Aside0.mk (Kd.R_drew HO_6.out)
     have n1_ := Aside0.mk (Kd.R_drew HO_9.out)
     have n2_ := Aside0.mk (Kd.R_drew HO_308002.out)
     have n3_ := Aside0.mk (blk_drew BK288.out)
     have n4_ := Aside0.mk (blk_drew BK289.out)
     have n5_ := Aside0.mk (blk_drew BK307.out)
     have n6_ := Aside0.mk (below_drew1 HB.out)
     clear HO_6
     clear HO_9
     clear HO_308002
     clear BK288
     clear BK289
     clear BK307
     clear HB
     have HO_6 := n0_
     have HO_9 := n1_
     have HO_308002 := n2_
     have BK288 := n3_
     have BK289 := n4_
     have BK307 := n5_
     have HB := n6_
     clear n0_ n1_ n2_ n3_ n4_ n5_ n6_
     refine start_ (n := 10) (S := fun w' => w'.cell? ⟨gb288, 0, none⟩ = some (.int .i64 a0_0) ∧ w'.cell? ⟨gb288, 1, none⟩ = some (.int .i64 a0_1) ∧ w'.cell? ⟨gb288, 2, none⟩ = some (.slice A0_2 l0_2.length c0_2) ∧ w'.cell? ⟨gb289, 0, none⟩ = some (.int .i64 a1_0) ∧ w'.cell? ⟨gb289, 1, none⟩ = some (.int .i64 a1_1)) (ds := []) #[false, false, false, false, false, false, false, false, false, false] (by kernel_rfl) rfl rfl ⟨(blk_cell BK288.out 0).trans rfl, (blk_cell BK288.out 1).trans rfl, (blk_cell BK288.out 2).trans rfl, (blk_cell BK289.out 0).trans rfl, (blk_cell BK289.out 1).trans rfl⟩ (fun hHeld => ?_); refine with_tabW laws_FnExactLongestWalk.tab24 laws_FnExactLongestWalk.bits24 (fun HT_ HW_ => ?_)
     generalize w77.drew = w78 at HO_6 HO_9 HO_308002 BK288 BK289 BK307 HB hHeld ⊢
     refine take_ (i := 0) (N := some 80) (v := ?_) (a' := ?_) #[true, false, false, false, false, false, false, false, false, false] rfl rfl (take_ofW HT_.out HW_.out (by kernel_rfl)) (fun _ _ _ h => h) (Or.inl ⟨by rfl, ?_⟩) hHeld ?_ ?_
     rotate_left
     ·rintro w' ⟨s0, s1, s2, s3, s4⟩
      go_simp
      with_reducible rfl
     rotate_left
     ·simp only [Act.put, List.setIfInBounds_toArray, List.set_cons_zero, List.set_cons_succ, i64_w, i32_w]
      rfl
     refine take_ (i := 2) (N := some 82) (v := ?_) (a' := ?_) #[true, false, true, false, false, false, false, false, false, false] rfl rfl (take_ofW HT_.out HW_.out (by kernel_rfl)) (fun _ _ _ h => h) (Or.inl ⟨by rfl, ?_⟩) hHeld ?_ ?_
     rotate_left
     ·rintro w' ⟨s0, s1, s2, s3, s4⟩
      go_simp
      with_reducible rfl
     rotate_left
     ·simp only [Act.put, List.setIfInBounds_toArray, List.set_cons_zero, List.set_cons_succ, i64_w, i32_w]
      rfl
     refine one_ (i := 1) (N := some 81) #[true, true, true, false, false, false, false, false, false, false] rfl rfl (one_of HT_.out (by kernel_rfl)) (by decide) (fun K hK => ?_)
     refine goes_ Try.func7 (by kernel_rfl) rfl #[.agg #[.int .i64 a0_0, .int .i64 a0_1, .slice A0_2 l0_2.length c0_2]] (by rfl) rfl rfl zi3 ?_
     with_reducible refine (laws_toBoard.calls kj48 a0_0 a0_1 _ _ l0_2 t327 t328 t329 _ ?side1 ?side2 A72.out).mono ?_
     (case side1 => exact zi11)
     (case side2 => exact HC0_2.out)
     rintro e w79 ⟨v330, rfl, ho0, hb⟩
     refine ⟨_, rfl, ?_⟩
     have n0_ := Aside0.mk (Kd.R_elder' zi10 (Kd.R_base ho0) hb)
     have n1_ := Aside0.mk (Kd.R_elder' zi9 (Kd.R_base ho0) hb)
     have n2_ := Aside0.mk (Kd.R_elder' zi7 (Kd.R_base ho0) hb)
     have n3_ := Aside0.mk (Kd.R_lower (Kd.R_new' (Kd.R_new' (Kd.R_new' ho0 (Kd.R_lt zi10)) (Kd.R_lt zi9)) (Kd.R_lt zi7)) (below_size zi1))
     have n4_ := Aside0.mk (blk_below (g := gb288) (o := .cells #[.int .i64 a0_0, .int .i64 a0_1, .slice A0_2 l0_2.length c0_2] 24 (0, 0)) zi2 hb)
     have n5_ := Aside0.mk (blk_below (g := gb289) (o := .cells #[.int .i64 a1_0, .int .i64 a1_1] 26 (0, 0)) zi4 hb)
     have n6_ := Aside0.mk (blk_below (g := gb307) (o := .cells #[.int .i64 t302, .int .i64 t303, .slice Ao33 t322.length co33] 30 (0, 0)) zi6 hb)
     have n7_ := Aside0.mk (below_step zi1 hb)
     clear HO_6
     clear HO_9
     clear HO_308002
     clear BK288
     clear BK289
     clear BK307
     clear HB
     have HO_6 := n0_
     have HO_9 := n1_
     have HO_308002 := n2_
     have HO331 := n3_
     have BK288 := n4_
     have BK289 := n5_
     have BK307 := n6_
     have HB := n7_
     clear n0_ n1_ n2_ n3_ n4_ n5_ n6_ n7_
     (try clear hb)
     (try clear hb2)
     (try clear hk)
     (try clear hi)
     (try clear ho0)
     (try clear hna_)
     (try clear hnb_)
     refine hK.out _ _ ⟨(blk_cell BK288.out 0).trans rfl, (blk_cell BK288.out 1).trans rfl, (blk_cell BK288.out 2).trans rfl, (blk_cell BK289.out 0).trans rfl, (blk_cell BK289.out 1).trans rfl⟩ (fun hHeld => ?_)
     clear hK K
     refine norm_ (a' := ?_) ?_ ?_
     rotate_left
     ·show Act.put _ (some 81) _ = _
      simp only [Act.put, List.setIfInBounds_toArray, List.set_cons_zero, List.set_cons_succ, i64_w, i32_w]
      rfl
     refine one_ (i := 3) (N := some 83) #[true, true, true, true, false, false, false, false, false, false] rfl rfl (one_of HT_.out (by kernel_rfl)) (by decide) (fun K hK => ?_)
     refine goes_ Try.func8 (by kernel_rfl) rfl #[.agg #[.int .i64 a1_0, .int .i64 a1_1]] (by rfl) rfl rfl zi3 ?_
     with_reducible refine (laws_toLeaper.calls a1_0 a1_1 t332 t333 _ A73.out).mono ?_
     rintro e w80 ⟨rfl, hb⟩
     refine ⟨_, rfl, ?_⟩
     have n0_ := Aside0.mk (Kd.R_below zi10 hb)
     have n1_ := Aside0.mk (Kd.R_below zi9 hb)
     have n2_ := Aside0.mk (Kd.R_below zi7 hb)
     have n3_ := Aside0.mk (Kd.R_below zi24 hb)
     have n4_ := Aside0.mk (blk_below (g := gb288) (o := .cells #[.int .i64 a0_0, .int .i64 a0_1, .slice A0_2 l0_2.length c0_2] 24 (0, 0)) zi2 hb)
     have n5_ := Aside0.mk (blk_below (g := gb289) (o := .cells #[.int .i64 a1_0, .int .i64 a1_1] 26 (0, 0)) zi4 hb)
     have n6_ := Aside0.mk (blk_below (g := gb307) (o := .cells #[.int .i64 t302, .int .i64 t303, .slice Ao33 t322.length co33] 30 (0, 0)) zi6 hb)
     have n7_ := Aside0.mk (below_step zi1 hb)
     clear HO_6
     clear HO_9
     clear HO_308002
     clear HO331
     clear BK288
     clear BK289
     clear BK307
     clear HB
     have HO_6 := n0_
     have HO_9 := n1_
     have HO_308002 := n2_
     have HO331 := n3_
     have BK288 := n4_
     have BK289 := n5_
     have BK307 := n6_
     have HB := n7_
     clear n0_ n1_ n2_ n3_ n4_ n5_ n6_ n7_
     (try clear hb)
     (try clear hb2)
     (try clear hk)
     (try clear hi)
     (try clear hna_)
     (try clear hnb_)
     obtain ⟨Ao81, co81, eo81⟩ := Kd.R_slice HO331.out
     (first | subst eo81 | (injection eo81 with f1_ f2_ f3_; have f4_ := f1_.symm; have f5_ := f3_.symm; clear f1_ f2_ f3_; subst f4_; subst f5_))
     refine hK.out _ _ ⟨(blk_cell BK288.out 0).trans rfl, (blk_cell BK288.out 1).trans rfl, (blk_cell BK288.out 2).trans rfl, (blk_cell BK289.out 0).trans rfl, (blk_cell BK289.out 1).trans rfl⟩ (fun hHeld => ?_)
     clear hK K
     refine norm_ (a' := ?_) ?_ ?_
     rotate_left
     ·show Act.put _ (some 83) _ = _
      simp only [Act.put, List.setIfInBounds_toArray, List.set_cons_zero, List.set_cons_succ, i64_w, i32_w]
      rfl
     refine one_ (i := 4) (N := some 84) #[true, true, true, true, true, false, false, false, false, false] rfl rfl (one_of HT_.out (by kernel_rfl)) (by decide) (fun K hK => ?_)
     refine goes_ Try.func9 (by kernel_rfl) rfl #[.agg #[.int .i64 t327, .int .i64 t328, .slice Ao81 t329.length co81], .agg #[.int .i64 t332, .int .i64 t333]] (by rfl) rfl rfl zi3 ?_
     with_reducible refine (impl_LongestWalk.calls kj48 t327 t328 _ _ t329 t332 t333 t334 t337 _ ?side1 ?side2 A74.out).mono ?_
     (case side1 => repeat (first | exact (Kd.R_reads' HO331.out).2.2 | (with_reducible refine Kd.C_alloc ?_ _) | (with_reducible refine Kd.C_drewN ?_ _) | (with_reducible refine Kd.C_drew ?_)))
     (case side2 => exact (Kd.R_reads' HO331.out).2.1)
     rintro e w82 ⟨v335, rfl, ho0, hb⟩
     refine ⟨_, rfl, ?_⟩
     have n0_ := Aside0.mk (Kd.R_elder' zi10 (Kd.R_base ho0) hb)
     have n1_ := Aside0.mk (Kd.R_elder' zi9 (Kd.R_base ho0) hb)
     have n2_ := Aside0.mk (Kd.R_elder' zi7 (Kd.R_base ho0) hb)
     have n3_ := Aside0.mk (Kd.R_elder' zi24 (Kd.R_base ho0) hb)
     have n4_ := Aside0.mk (Kd.R_lower (Kd.R_new' (Kd.R_new' (Kd.R_new' (Kd.R_new' ho0 (Kd.R_lt zi10)) (Kd.R_lt zi9)) (Kd.R_lt zi7)) (Kd.R_lt zi24)) (below_size zi1))
     have n5_ := Aside0.mk (blk_below (g := gb288) (o := .cells #[.int .i64 a0_0, .int .i64 a0_1, .slice A0_2 l0_2.length c0_2] 24 (0, 0)) zi2 hb)
     have n6_ := Aside0.mk (blk_below (g := gb289) (o := .cells #[.int .i64 a1_0, .int .i64 a1_1] 26 (0, 0)) zi4 hb)
     have n7_ := Aside0.mk (blk_below (g := gb307) (o := .cells #[.int .i64 t302, .int .i64 t303, .slice Ao33 t322.length co33] 30 (0, 0)) zi6 hb)
     have n8_ := Aside0.mk (below_step zi1 hb)
     clear HO_6
     clear HO_9
     clear HO_308002
     clear HO331
     clear BK288
     clear BK289
     clear BK307
     clear HB
     have HO_6 := n0_
     have HO_9 := n1_
     have HO_308002 := n2_
     have HO331 := n3_
     have HO336 := n4_
     have BK288 := n5_
     have BK289 := n6_
     have BK307 := n7_
     have HB := n8_
     clear n0_ n1_ n2_ n3_ n4_ n5_ n6_ n7_ n8_
     (try clear hb)
     (try clear hb2)
     (try clear hk)
     (try clear hi)
     (try clear ho0)
     (try clear hna_)
     (try clear hnb_)
     refine hK.out _ _ ⟨(blk_cell BK288.out 0).trans rfl, (blk_cell BK288.out 1).trans rfl, (blk_cell BK288.out 2).trans rfl, (blk_cell BK289.out 0).trans rfl, (blk_cell BK289.out 1).trans rfl⟩ (fun hHeld => ?_)
     clear hK K
     refine norm_ (a' := ?_) ?_ ?_
     rotate_left
     ·show Act.put _ (some 84) _ = _
      simp only [Act.put, List.setIfInBounds_toArray, List.set_cons_zero, List.set_cons_succ, i64_w, i32_w]
      rfl
     refine pure_ (i := 5) (N := some 79) (v := ?_) (a' := ?_) #[true, true, true, true, true, true, false, false, false, false] rfl rfl (any_of HT_.out (by kernel_rfl)) (fun _ _ _ h => h) (Or.inl ⟨by rfl, ?_⟩) ?_ ?_
     rotate_left
     ·intro w'
      go_simp
      with_reducible rfl
     rotate_left
     ·simp only [Act.put, List.setIfInBounds_toArray, List.set_cons_zero, List.set_cons_succ, i64_w, i32_w]
      rfl
     refine pure_ (i := 6) (N := some 85) (v := ?_) (a' := ?_) #[true, true, true, true, true, true, true, false, false, false] rfl rfl (any_of HT_.out (by kernel_rfl)) (fun _ _ _ h => h) (Or.inl ⟨by rfl, ?_⟩) ?_ ?_
     rotate_left
     ·intro w'
      go_simp
      with_reducible rfl
     rotate_left
     ·simp only [Act.put, List.setIfInBounds_toArray, List.set_cons_zero, List.set_cons_succ, i64_w, i32_w]
      rfl
     refine pure_ (i := 7) (N := some 86) (v := ?_) (a' := ?_) #[true, true, true, true, true, true, true, true, false, false] rfl rfl (any_of HT_.out (by kernel_rfl)) (fun _ _ _ h => h) (Or.inl ⟨by rfl, ?_⟩) ?_ ?_
     rotate_left
     ·intro w'
      go_simp
      with_reducible rfl
     rotate_left
     ·simp only [Act.put, List.setIfInBounds_toArray, List.set_cons_zero, List.set_cons_succ, i64_w, i32_w]
      rfl
     refine pure_ (i := 8) (N := some 14) (v := ?_) (a' := ?_) #[true, true, true, true, true, true, true, true, true, false] rfl rfl (any_of HT_.out (by kernel_rfl)) (fun _ _ _ h => h) (Or.inl ⟨by rfl, ?_⟩) ?_ ?_
     rotate_left
     ·intro w'
      go_simp
      with_reducible rfl
     rotate_left
     ·simp only [Act.put, List.setIfInBounds_toArray, List.set_cons_zero, List.set_cons_succ, i64_w, i32_w]
      rfl
     refine pure_ (i := 9) (N := some 15) (v := ?_) (a' := ?_) #[true, true, true, true, true, true, true, true, true, true] rfl rfl (any_of HT_.out (by kernel_rfl)) (fun _ _ _ h => h) (Or.inl ⟨by rfl, ?_⟩) ?_ ?_
     rotate_left
     ·intro w'
      go_simp
      with_reducible rfl
     rotate_left
     ·simp only [Act.put, List.setIfInBounds_toArray, List.set_cons_zero, List.set_cons_succ, i64_w, i32_w]
      rfl
     refine done_ (done_of HT_.out (by kernel_rfl)) ?_
     go_upto_region 25 with (fail)
     go_cut [95] (fun v95 wc => ∃ (kq : Nat) (x95_74 : Bool), v95 = .bool x95_74 ∧ Aside0 (laws_FnExactLongestWalk.j2 kq t325 t324 x95_74 = some r) ∧ Aside0 (kq ≤ kj48) ∧ Aside0 (Kd.R (Kd.int .i64) 3 wc w.heap.size (fun k_ => some k_ ≠ ((.slice Ao33 t322.length co33) : Value).ownBlock) (.slice Ao76 t310.length co76) t325) ∧ Aside0 (Kd.R (Kd.int .i64) 3 wc w.heap.size (fun k_ => some k_ ≠ ((.slice Ao76 t310.length co76) : Value).ownBlock) (.slice Ao33 t322.length co33) t322) ∧ Aside0 (wc.heap[gb288]? = some (.cells #[.int .i64 a0_0, .int .i64 a0_1, (.slice A0_2 l0_2.length c0_2)] 24 (0, 0))) ∧ Aside0 (wc.heap[gb289]? = some (.cells #[.int .i64 a1_0, .int .i64 a1_1] 26 (0, 0))) ∧ Aside0 (wc.heap[gb307]? = some (.cells #[.int .i64 t302, .int .i64 t303, (.slice Ao33 t322.length co33)] 30 (0, 0))) ∧ Aside0 (Below w.heap.size w wc))
     case first =>
      have H := HC75.out
      clear HC75
      replace H := Option.bind_eq_some_iff.mp H
      obtain ⟨t338, A830, H⟩ := H
      replace H : (if t338 = true then (laws_FnExactLongestWalk.j2 kj48 t325 t324 (t337 != t301)) else (laws_FnExactLongestWalk.j2 kj48 t325 t324 true)) = some r := H
      have A83 := Aside0.mk A830
      clear A830
      by_cases c84 : t338 = true
      ·subst c84
       have H1 : (laws_FnExactLongestWalk.j2 kj48 t325 t324 (t337 != t301)) = some r := by rw [if_pos rfl] at H; exact H
       clear H
       have H := H1
       clear H1
       have H' := Aside0.mk H
       clear H
       obtain ⟨Ao85, co85, eo85⟩ := Kd.R_slice HO336.out
       subst eo85
       obtain ⟨Ao86, co86, eo86⟩ := Kd.R_slice HO_6.out
       subst eo86
       go_wp2_with (first | ((with_reducible refine gate_callee (f := 10) rfl ?_); refine goesL_ (some 89) rfl rfl Try.func10 (by kernel_rfl) rfl #[.slice Ao85 t334.length co85, .slice Ao86 t298.length co86] rfl zi3 ?_; (with_reducible refine (laws_eqIntS.calls kj48 _ _ t334 _ _ t298 true _ ?side1 ?side2 ?side3 ?side4 A83.out).mono ?_); (case side1 => exact zi29); (case side2 => exact (Kd.R_reads' HO336.out).2.1); (case side3 => exact zi17); (case side4 => exact (Kd.R_reads' HO_6.out).2.1); rintro e w' ⟨rfl, ⟨nd, rfl⟩⟩; refine ⟨_, rfl, ?_⟩))
       go_meet
       case rel => exact ⟨_, ((t337 != t301)), zi23, H', ⟨by have := HJ15.out; have := HJ48.out; first | omega | exact Nat.le_refl _⟩, ⟨zi27⟩, ⟨zi26⟩, ⟨zi35⟩, ⟨zi34⟩, ⟨zi33⟩, ⟨zi1⟩⟩
      replace c84 := Bool.eq_false_iff.mpr c84
      subst c84
      have H1 : (laws_FnExactLongestWalk.j2 kj48 t325 t324 true) = some r := by rw [if_neg (show ¬ (false = true) by decide)] at H; exact H
      clear H
      have H := H1
      clear H1
      have H' := Aside0.mk H
      clear H
      obtain ⟨Ao87, co87, eo87⟩ := Kd.R_slice HO336.out
      subst eo87
      obtain ⟨Ao88, co88, eo88⟩ := Kd.R_slice HO_6.out
      subst eo88
      go_wp2_with (first | ((with_reducible refine gate_callee (f := 10) rfl ?_); refine goesL_ (some 89) rfl rfl Try.func10 (by kernel_rfl) rfl #[.slice Ao87 t334.length co87, .slice Ao88 t298.length co88] rfl zi3 ?_; (with_reducible refine (laws_eqIntS.calls kj48 _ _ t334 _ _ t298 false _ ?side1 ?side2 ?side3 ?side4 A83.out).mono ?_); (case side1 => exact zi29); (case side2 => exact (Kd.R_reads' HO336.out).2.1); (case side3 => exact zi17); (case side4 => exact (Kd.R_reads' HO_6.out).2.1); rintro e w' ⟨rfl, ⟨nd, rfl⟩⟩; refine ⟨_, rfl, ?_⟩))
      go_meet
      case rel => exact ⟨_, (true), zi23, H', ⟨by have := HJ15.out; have := HJ48.out; first | omega | exact Nat.le_refl _⟩, ⟨zi27⟩, ⟨zi26⟩, ⟨zi35⟩, ⟨zi34⟩, ⟨zi33⟩, ⟨zi1⟩⟩
     case rest =>
      clear HC75
      try clear c1; try clear p2; try clear c3; try clear c4; try clear c4b0; try clear c5; try clear c6; try clear c7; try clear c8; try clear c9; try clear c10; try clear c11; try clear c12; try clear c13; try clear c14; try clear c19; try clear c30; try clear c31; try clear c39; try clear c44; try clear c47; try clear c54; try clear c55; try clear c58; try clear c58b0; try clear c60; try clear c65; try clear c68; try clear c68b0; try clear c71; try clear c71b0; try clear c71b1; try clear c84; try clear hcz20_0; try clear hcz20_1; try clear hcz20_2; try clear hcz27_0; try clear hcz27_1; try clear hcz27_2
      try clear hcz32_0; try clear hcz32_1; try clear hcz32_2; try clear hcz56_0; try clear hcz56_1; try clear hcz56_2; try clear hcz8_0; try clear hcz8_1; try clear hcz8_2; try clear hfz20_0; try clear hfz20_1; try clear hfz20_2; try clear hfz27_0; try clear hfz27_1; try clear hfz27_2; try clear hfz32_0; try clear hfz32_1; try clear hfz32_2; try clear hfz56_0; try clear hfz56_1; try clear hfz56_2; try clear hfz8_0; try clear hfz8_1; try clear hfz8_2; try clear p2
      obtain ⟨kq, x95_74, rfl, HA, HJ74, HO_9, HO_308002, BK288, BK289, BK307, HB⟩ := hcut
      have hl9_74 := (Kd.R_reads' HO_9.out).1
      rw [hl9_74] at HO_9
      (try simp only [hl9_74])
      (try simp only [hl9_74] at BK288)
      (try simp only [hl9_74] at BK289)
      (try simp only [hl9_74] at BK307)
      (try simp only [hl9_74] at HO_308002)
      cases kq with
      | zero => exact absurd HA.out (by simp [laws_FnExactLongestWalk.j2])
      | succ kj74 =>
       have H := HA.out
       clear HA
       simp only [laws_FnExactLongestWalk.j2] at H
       by_cases c89 : x95_74 = true
       ·subst c89
        have H1 : (some false) = some r := by rw [if_pos rfl] at H; exact H
        clear H
        have H := H1
        clear H1
        obtain rfl := Option.some.inj H
        go_wp2
        go_ret
        exact ⟨zi12, zi1⟩
       replace c89 := Bool.eq_false_iff.mpr c89
       subst c89
       have H1 : ((laws_heldIntS.f kj74 t325 1).bind fun t339 => (if t339 < 0 then (some false) else (if t339 = t324 then (some true) else (some false)))) = some r := by rw [if_neg (show ¬ (false = true) by decide)] at H; exact H
       clear H
       have H := H1
       clear H1
       replace H := Option.bind_eq_some_iff.mp H
       obtain ⟨t339, A900, H⟩ := H
       replace H : (if t339 < 0 then (some false) else (if t339 = t324 then (some true) else (some false))) = some r := H
       have A90 := Aside0.mk A900
       clear A900
       by_cases c91 : t339 < 0
       ·rw [if_pos c91] at H
        have c91b0 : decide (t339 < 0) = true := decide_eq_true c91
        clear c91
        obtain rfl := Option.some.inj H
        go_wp2_with (first | ((with_reducible refine gate_callee (f := 14) rfl ?_); refine goesL_ (some 98) rfl rfl Try.func14 (by kernel_rfl) rfl #[.slice Ao76 t325.length co76, .int .i64 1] rfl zi3 ?_; (with_reducible refine (laws_heldIntS.calls kj74 _ _ t325 1 t339 _ ?side1 ?side2 A90.out).mono ?_); (case side1 => exact zi8); (case side2 => exact (Kd.R_reads' HO_9.out).2.1); rintro e w' ⟨rfl, ⟨nd, rfl⟩⟩; refine ⟨_, rfl, ?_⟩))
        go_ret
        exact ⟨zi12, zi1⟩
       rw [if_neg c91] at H
       have c91b0 : decide (t339 < 0) = false := decide_eq_false c91
       clear c91
       by_cases c92 : t339 = t324
       rotate_left
       ·rw [if_neg c92] at H
        have c92b0 : (t339 == t324) = false := beq_eq_false_iff_ne.mpr c92
        have c92b1 : (t339 != t324) = true := bne_iff_ne.mpr c92
        obtain rfl := Option.some.inj H
        go_wp2_with (first | ((with_reducible refine gate_callee (f := 14) rfl ?_); refine goesL_ (some 98) rfl rfl Try.func14 (by kernel_rfl) rfl #[.slice Ao76 t325.length co76, .int .i64 1] rfl zi3 ?_; (with_reducible refine (laws_heldIntS.calls kj74 _ _ t325 1 t339 _ ?side1 ?side2 A90.out).mono ?_); (case side1 => exact zi8); (case side2 => exact (Kd.R_reads' HO_9.out).2.1); rintro e w' ⟨rfl, ⟨nd, rfl⟩⟩; refine ⟨_, rfl, ?_⟩))
        go_ret
        exact ⟨zi12, zi1⟩
       rw [if_pos c92] at H
       have c92b0 : (t339 == t324) = true := beq_iff_eq.mpr c92
       have c92b1 : (t339 != t324) = false := bne_eq_false_iff_eq.mpr c92
       clear c92
       obtain rfl := Option.some.inj H
       go_wp2_with (first | ((with_reducible refine gate_callee (f := 14) rfl ?_); refine goesL_ (some 98) rfl rfl Try.func14 (by kernel_rfl) rfl #[.slice Ao76 t325.length co76, .int .i64 1] rfl zi3 ?_; (with_reducible refine (laws_heldIntS.calls kj74 _ _ t325 1 t339 _ ?side1 ?side2 A90.out).mono ?_); (case side1 => exact zi8); (case side2 => exact (Kd.R_reads' HO_9.out).2.1); rintro e w' ⟨rfl, ⟨nd, rfl⟩⟩; refine ⟨_, rfl, ?_⟩))
       go_ret
       exact ⟨zi12, zi1⟩

end Go.Proofs.Ytmfbhhicioepjaa.Q

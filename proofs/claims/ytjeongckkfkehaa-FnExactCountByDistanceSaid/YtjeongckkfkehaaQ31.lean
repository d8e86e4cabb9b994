/- Written by a program of this session: functions of the translation as plain Lean functions, each with a proof that the call does what the plain function says; the conditions stand in each theorem. -/
import Derived.Test.YtjeongckkfkehaaQ0
import Derived.Test.YtjeongckkfkehaaQ1
import Derived.Test.YtjeongckkfkehaaQ2
import Derived.Test.YtjeongckkfkehaaQ5
import Derived.Test.YtjeongckkfkehaaQ11
import Derived.Test.YtjeongckkfkehaaQ30
namespace Go.Proofs.Ytjeongckkfkehaa.Q
open Go.RowKit Go.Proofs.YtjeongckkfkehaaW.PrintWords Go.Proofs.YtjeongckkfkehaaW.PrintLast Go.Proofs.YtjeongckkfkehaaW.PrintMore
attribute [local go_sem] max2_int min2_int max_two min_two max_three min_three max_four min_four   -- for this text's walks alone
set_option linter.unusedVariables false
set_option linter.unusedSimpArgs false

theorem zaf1 {p : Prop} (h : p := by repeat (first | (with_reducible first | exact HB.out | apply below_alloc | apply pw_below_drewN | apply below_drew1 | refine below_set ?_ GE832.out | refine below_set ?_ GE833.out | refine below_set ?_ GE851.out) | exact HB.out)) : p := h
theorem zaf2 {p : Prop} (h : p := by (with_reducible repeat (first | refine blk_drewN ?_ _ | refine blk_drew ?_ | refine blk_alloc ?_ _)); exact BK832.out) : p := h
theorem zaf3 {p : Prop} (h : p := by (try simp only [List.map_toArray, List.map_cons, List.map_nil]); first | done | rfl | (simp only [List.length_drop, List.length_take]; rfl)) : p := h
theorem zaf4 {p : Prop} (h : p := by (with_reducible repeat (first | refine blk_drewN ?_ _ | refine blk_drew ?_ | refine blk_alloc ?_ _)); exact BK833.out) : p := h
theorem zaf6 {p : Prop} (h : p := by repeat (first | (with_reducible first | exact HB.out | apply below_alloc | apply pw_below_drewN | apply below_drew1 | refine below_set ?_ GE832.out | refine below_set ?_ GE833.out) | exact HB.out)) : p := h
theorem zaf7 {p : Prop} (h : p := by (with_reducible repeat (first | refine blk_drewN ?_ _ | refine blk_drew ?_ | refine blk_alloc ?_ _)); exact BK851.out) : p := h
theorem zaf8 {p : Prop} (h : p := by (with_reducible repeat (first | apply Kd.R_alloc | apply Kd.R_drewN | apply Kd.R_drew)); exact HO_852002.out) : p := h
theorem zaf9 {p : Prop} (h : p := by repeat (first | exact (Kd.R_reads' HO_11.out).2.2 | (with_reducible refine Kd.C_alloc ?_ _) | (with_reducible refine Kd.C_drewN ?_ _) | (with_reducible refine Kd.C_drew ?_))) : p := h
theorem zaf10 {p : Prop} (h : p := by (with_reducible repeat (first | apply Kd.R_alloc | apply Kd.R_drewN | apply Kd.R_drew)); exact HO_11.out) : p := h
theorem zaf11 {p : Prop} (h : p := by (with_reducible repeat (first | apply Kd.R_alloc | apply Kd.R_drewN | apply Kd.R_drew)); exact HO_8.out) : p := h
theorem zaf12 {p : Prop} (h : p := by repeat (first | exact (Kd.C_below HR0_2.out HB.out) | (with_reducible refine Kd.C_alloc ?_ _) | (with_reducible refine Kd.C_drewN ?_ _) | (with_reducible refine Kd.C_drew ?_))) : p := h
theorem zaf13 {p : Prop} (h : p := by first | rfl | (simp [errW_none, errW_some] <;> rfl) | (simp [*, errW_none, errW_some] <;> rfl)) : p := h
theorem zaf14 {p : Prop} (h : p := by (with_reducible repeat (first | apply Kd.R_alloc | apply Kd.R_drewN | apply Kd.R_drew)); exact HO839.out) : p := h
theorem zaf15 {p : Prop} (h : p := by repeat (first | (with_reducible first | exact HB.out | apply below_alloc | apply pw_below_drewN | apply below_drew1 | refine below_set ?_ GE832.out) | exact HB.out)) : p := h
theorem zaf16 {p : Prop} (h : p := by repeat (first | (with_reducible first | exact HB.out | apply below_alloc | apply pw_below_drewN | apply below_drew1) | exact HB.out)) : p := h
theorem zaf17 {p : Prop} (h : p := by (with_reducible repeat (first | apply Kd.R_alloc | apply Kd.R_drewN | apply Kd.R_drew)); exact HO844.out) : p := h
theorem zaf18 {p : Prop} (h : p := by repeat (first | exact (Kd.R_reads' HO_8.out).2.2 | (with_reducible refine Kd.C_alloc ?_ _) | (with_reducible refine Kd.C_drewN ?_ _) | (with_reducible refine Kd.C_drew ?_))) : p := h
theorem zaf19 {p : Prop} (h : p := by (try simp only [List.map_toArray, List.map_cons, List.map_nil]); first | done | (rw [show t869.length = t854.length from (Kd.R_reads' HO_11.out).1.symm] <;> rfl) | rfl | (simp only [List.length_drop, List.length_take]; rfl)) : p := h
theorem zaf20 {p : Prop} (h : p := by (with_reducible repeat (first | apply Kd.R_alloc | apply Kd.R_drewN | apply Kd.R_drew)); exact HO850.out) : p := h
theorem zaf21 {p : Prop} (h : p := by (with_reducible repeat (first | apply Kd.R_alloc | apply Kd.R_drewN | apply Kd.R_drew)); exact Kd.R_mono HO_852002.out (fun _ hk => ⟨hk.1.1, hk.1.2⟩)) : p := h
theorem zaf22 {p : Prop} (h : p := by (with_reducible repeat (first | apply Kd.R_alloc | apply Kd.R_drewN | apply Kd.R_drew)); exact Kd.R_mono HO_11.out (fun _ hk => ⟨hk.1, hk.2.1⟩)) : p := h
theorem zaf23 {p : Prop} (h : p := by (with_reducible repeat (first | apply Kd.R_alloc | apply Kd.R_drewN | apply Kd.R_drew)); exact Kd.R_mono HO_8.out (fun _ hk => ⟨hk.1, hk.2.1⟩)) : p := h
theorem zaf24 {p : Prop} (h : p := by first | rfl | (simp; done) | (simp [*]; done)) : p := h
theorem zaf25 {p : Prop} (h : p := by (with_reducible repeat (first | apply Kd.R_alloc | apply Kd.R_drewN | apply Kd.R_drew)); exact HO875.out) : p := h
theorem zaf26 {p : Prop} (h : p := by rw [show t869.length = t854.length from (Kd.R_reads' HO_11.out).1.symm]; exact (Kd.R_reads' HO_11.out).2.1) : p := h
theorem zaf27 {p : Prop} (h : p := by (try simp only [hl852002_49]); (with_reducible repeat (first | apply Kd.R_alloc | apply Kd.R_drewN | apply Kd.R_drew)); exact Kd.R_mono HO_852002.out (fun _ hk => hk.1.1.2)) : p := h
theorem zaf28 {p : Prop} (h : p := by (try simp only [hl852002_49]); (with_reducible repeat (first | apply Kd.R_alloc | apply Kd.R_drewN | apply Kd.R_drew)); exact Kd.R_mono HO_11.out (fun _ hk => hk.1.1.2)) : p := h
theorem zaf29 {p : Prop} (h : p := by repeat (first | exact (Kd.R_reads' HO_852002.out).2.2 | (with_reducible refine Kd.C_alloc ?_ _) | (with_reducible refine Kd.C_drewN ?_ _) | (with_reducible refine Kd.C_drew ?_))) : p := h
theorem zaf30 {p : Prop} (h : p := by repeat (first | exact (Kd.R_reads' HO880.out).2.2 | (with_reducible refine Kd.C_alloc ?_ _) | (with_reducible refine Kd.C_drewN ?_ _) | (with_reducible refine Kd.C_drew ?_))) : p := h
theorem zaf31 {p : Prop} (h : p := by repeat (first | exact (Kd.R_reads' HO863.out).2.2 | (with_reducible refine Kd.C_alloc ?_ _) | (with_reducible refine Kd.C_drewN ?_ _) | (with_reducible refine Kd.C_drew ?_))) : p := h
theorem zaf32 {p : Prop} (h : p := by repeat (first | exact (Kd.R_reads' HO856.out).2.2 | (with_reducible refine Kd.C_alloc ?_ _) | (with_reducible refine Kd.C_drewN ?_ _) | (with_reducible refine Kd.C_drew ?_))) : p := h
theorem zaf33 {p : Prop} (h : p := by repeat (first | exact (Kd.R_reads' HO844.out).2.2 | (with_reducible refine Kd.C_alloc ?_ _) | (with_reducible refine Kd.C_drewN ?_ _) | (with_reducible refine Kd.C_drew ?_))) : p := h
theorem zaf34 {p : Prop} (h : p := by (try simp only [hl852002_49]); (with_reducible repeat (first | refine blk_drewN ?_ _ | refine blk_drew ?_ | refine blk_alloc ?_ _)); exact BK851.out) : p := h
theorem zaf35 {p : Prop} (h : p := by (try simp only [hl852002_49]); (with_reducible repeat (first | refine blk_drewN ?_ _ | refine blk_drew ?_ | refine blk_alloc ?_ _)); exact BK833.out) : p := h
theorem zaf36 {p : Prop} (h : p := by (try simp only [hl852002_49]); (with_reducible repeat (first | refine blk_drewN ?_ _ | refine blk_drew ?_ | refine blk_alloc ?_ _)); exact BK832.out) : p := h
theorem zaf37 {p : Prop} (h : p := by (with_reducible repeat (first | apply Kd.R_alloc | apply Kd.R_drewN | apply Kd.R_drew)); exact Kd.R_mono HO856.out (fun _ hk => ⟨hk.1.2, hk.2⟩)) : p := h
theorem zaf38 {p : Prop} (h : p := by (with_reducible repeat (first | apply Kd.R_alloc | apply Kd.R_drewN | apply Kd.R_drew)); exact Kd.R_mono HO850.out (fun _ hk => ⟨hk.1.2, hk.2⟩)) : p := h
theorem zaf39 {p : Prop} (h : p := by (with_reducible repeat (first | apply Kd.R_alloc | apply Kd.R_drewN | apply Kd.R_drew)); exact Kd.R_mono HO844.out (fun _ hk => ⟨hk.2, hk.1.2⟩)) : p := h
theorem zaf40 {p : Prop} (h : p := by rw [hg]; exact Nat.ne_of_lt (blk_lt (g := gb832) (o := .cells #[.int .i64 a0_0, .int .i64 a0_1, .slice A0_2 l0_2.length c0_2] 24 (0, 0)) zaf2)) : p := h
theorem zaf41 {p : Prop} (h : p := by rw [hg]; exact Nat.ne_of_gt (blk_lt (g := gb832) (o := .cells #[.int .i64 a0_0, .int .i64 a0_1, .slice A0_2 l0_2.length c0_2] 24 (0, 0)) zaf2)) : p := h
/-! ### laws_FnExactCountByDistance: function 8 -/
mutual
def laws_FnExactCountByDistance.j0 : Nat → Int → List Int → Bool → List Int → Bool → Bool → Int → Int → List Int → Int → Int → Int → Int → List Int → Option (Bool)
 | 0, _, _, _, _, _, _, _, _, _, _, _, _, _, _ => none
 | k + 1, x2, x8, x9, x11, x12, x50, x833000, x833001, x833002, x834000, x834001, x852000, x852001, x852002 => if x50 = true then (some false) else ((laws_toBoard.f k x833000 x833001 x833002).bind fun bt859 => ((laws_eqBoard.f k x852000 x852001 x852002 bt859.1 bt859.2.1 bt859.2.2).bind fun t864 => (if t864 = true then ((laws_markBoard.f k x852000 x852001 x852002 1).bind fun bt865 => (if bt865.1 < 0 then (laws_FnExactCountByDistance.j1 k x2 x8 x9 x11 true x833000 x833001 x833002 x834000 x834001) else ((laws_eqIntS.f k x11 x8).bind fun t867 => (if t867 = true then (laws_FnExactCountByDistance.j1 k x2 x8 x9 x11 (x12 != x9) x833000 x833001 x833002 x834000 x834001) else (laws_FnExactCountByDistance.j1 k x2 x8 x9 x11 true x833000 x833001 x833002 x834000 x834001))))) else (some false))))
def laws_FnExactCountByDistance.j1 : Nat → Int → List Int → Bool → List Int → Bool → Int → Int → List Int → Int → Int → Option (Bool)
 | 0, _, _, _, _, _, _, _, _, _, _ => none
 | k + 1, x2, x8, x9, x11, x71, x833000, x833001, x833002, x834000, x834001 => if x71 = true then (some false) else ((laws_markIntS.f k x11 1).bind fun bt868 => ((laws_heldIntS.f k bt868.2 1).bind fun t870 => (if t870 < 0 then (some false) else (if t870 = bt868.1 then ((laws_toBoard.f k x833000 x833001 x833002).bind fun bt871 => ((laws_toLeaper.f x834000 x834001).bind fun bt876 => ((impl_CountByDistance.f k bt871.1 bt871.2.1 bt871.2.2 bt876.1 bt876.2 x2).bind fun bt878 => ((laws_eqIntS.f k bt878.1 x8).bind fun t882 => (if t882 = true then (laws_FnExactCountByDistance.j2 k bt868.2 bt868.1 (bt878.2 != x9)) else (laws_FnExactCountByDistance.j2 k bt868.2 bt868.1 true)))))) else (some false)))))
def laws_FnExactCountByDistance.j2 : Nat → List Int → Int → Bool → Option (Bool)
 | 0, _, _, _ => none
 | k + 1, x11, x14, x100 => if x100 = true then (some false) else ((laws_heldIntS.f k x11 1).bind fun t883 => (if t883 < 0 then (some false) else (if t883 = x14 then (some true) else (some false))))
end
def laws_FnExactCountByDistance.f (k : Nat) (a0_0 : Int) (a0_1 : Int) (l0_2 : List Int) (a1_0 : Int) (a1_1 : Int) (a2 : Int) : Option (Bool) := (laws_szBoard.f a0_0 a0_1 l0_2 1048576).bind fun t834 => (if t834 < 0 then (some true) else ((laws_toBoard.f k a0_0 a0_1 l0_2).bind fun bt835 => ((laws_toLeaper.f a1_0 a1_1).bind fun bt840 => ((spec_CountByDistance.f k bt835.1 bt835.2.1 bt835.2.2 bt840.1 bt840.2 a2).bind fun bt842 => ((laws_toBoard.f k a0_0 a0_1 l0_2).bind fun bt846 => ((laws_toLeaper.f a1_0 a1_1).bind fun bt852 => ((impl_CountByDistance.f k bt846.1 bt846.2.1 bt846.2.2 bt852.1 bt852.2 a2).bind fun bt854 => ((laws_eqIntS.f k bt854.1 bt842.1).bind fun t858 => (if t858 = true then (laws_FnExactCountByDistance.j0 k a2 bt842.1 bt842.2 bt854.1 bt854.2 (bt854.2 != bt842.2) a0_0 a0_1 l0_2 a1_0 a1_1 bt846.1 bt846.2.1 bt846.2.2) else (laws_FnExactCountByDistance.j0 k a2 bt842.1 bt842.2 bt854.1 bt854.2 true a0_0 a0_1 l0_2 a1_0 a1_1 bt846.1 bt846.2.1 bt846.2.2))))))))))
def laws_FnExactCountByDistance.T5 : Bool × List (List Nat × List Nat) := (true, [([], []), ([0], [0]), ([], []), ([2, 1], [2]), ([], []), ([1, 3, 4, 3], [1, 3, 4]), ([5], [5]), ([6], [6]), ([6], [6]), ([7, 5, 0, 1, 2, 3, 4, 5, 6, 7], [7]), ([8, 9, 0, 1, 2, 3, 4, 5, 6, 7, 8, 9], [8])])
def laws_FnExactCountByDistance.B5 : List Nat := [0, 1, 0, 7, 0, 31, 63, 127, 127, 255, 1023]
theorem laws_FnExactCountByDistance.tab5 : rtab .any (opsOf Try.f8 5) = laws_FnExactCountByDistance.T5 := by kernel_rfl
theorem laws_FnExactCountByDistance.bits5 : waitsOk laws_FnExactCountByDistance.T5.2 laws_FnExactCountByDistance.B5 = true := by kernel_rfl
def laws_FnExactCountByDistance.T7 : Bool × List (List Nat × List Nat) := (true, [([], []), ([], []), ([1], [1]), ([], []), ([0, 2, 3, 2], [0, 2, 3]), ([4], [4]), ([5], [5]), ([5], [5]), ([6, 4, 0, 1, 2, 3, 4, 5, 6], [6]), ([7, 8, 0, 1, 2, 3, 4, 5, 6, 7, 8], [7])])
def laws_FnExactCountByDistance.B7 : List Nat := [0, 0, 2, 0, 15, 31, 63, 63, 127, 511]
theorem laws_FnExactCountByDistance.tab7 : rtab .any (opsOf Try.f8 7) = laws_FnExactCountByDistance.T7 := by kernel_rfl
theorem laws_FnExactCountByDistance.bits7 : waitsOk laws_FnExactCountByDistance.T7.2 laws_FnExactCountByDistance.B7 = true := by kernel_rfl
def laws_FnExactCountByDistance.T24 : Bool × List (List Nat × List Nat) := (true, [([], []), ([0], [0]), ([], []), ([2, 1], [2]), ([], []), ([1, 3, 4, 3], [1, 3, 4]), ([5], [5]), ([6], [6]), ([6], [6]), ([7, 5, 0, 1, 2, 3, 4, 5, 6, 7], [7]), ([8, 9, 0, 1, 2, 3, 4, 5, 6, 7, 8, 9], [8])])
def laws_FnExactCountByDistance.B24 : List Nat := [0, 1, 0, 7, 0, 31, 63, 127, 127, 255, 1023]
theorem laws_FnExactCountByDistance.tab24 : rtab .any (opsOf Try.f8 24) = laws_FnExactCountByDistance.T24 := by kernel_rfl
theorem laws_FnExactCountByDistance.bits24 : waitsOk laws_FnExactCountByDistance.T24.2 laws_FnExactCountByDistance.B24 = true := by kernel_rfl
set_option maxHeartbeats 8000000 in
set_option maxRecDepth 100000 in
theorem laws_FnExactCountByDistance.calls (k : Nat) (a0_0 : Int) (a0_1 : Int) (A0_2 : Option Addr) (c0_2 : Nat) (l0_2 : List Int) (a1_0 : Int) (a1_1 : Int) (a2 : Int) (r : Bool) (w : World) (hr0_2 : Kd.C (Kd.int .i64) w A0_2 l0_2.length l0_2) (hc0_2 : l0_2.length ≤ c0_2) (h : laws_FnExactCountByDistance.f k a0_0 a0_1 l0_2 a1_0 a1_1 a2 = some r) :
  Calls Try.prog 8 #[.agg #[.int .i64 a0_0, .int .i64 a0_1, .slice A0_2 l0_2.length c0_2], .agg #[.int .i64 a1_0, .int .i64 a1_1], .int .i64 a2] w fun e w' => e = .returned (.bool r) ∧ Below w.heap.size w w' := by
 have hu24 := Try.underlying24
 have hu26 := Try.underlying26
 have hu30 := Try.underlying30
 have HR0_2 := Aside0.mk hr0_2
 have HC0_2 := Aside0.mk hc0_2
 clear hr0_2 hc0_2
 have HB := Aside0.mk (Below.refl w.heap.size w)
 have H : ((laws_szBoard.f a0_0 a0_1 l0_2 1048576).bind fun t834 => (if t834 < 0 then (some true) else ((laws_toBoard.f k a0_0 a0_1 l0_2).bind fun bt835 => ((laws_toLeaper.f a1_0 a1_1).bind fun bt840 => ((spec_CountByDistance.f k bt835.1 bt835.2.1 bt835.2.2 bt840.1 bt840.2 a2).bind fun bt842 => ((laws_toBoard.f k a0_0 a0_1 l0_2).bind fun bt846 => ((laws_toLeaper.f a1_0 a1_1).bind fun bt852 => ((impl_CountByDistance.f k bt846.1 bt846.2.1 bt846.2.2 bt852.1 bt852.2 a2).bind fun bt854 => ((laws_eqIntS.f k bt854.1 bt842.1).bind fun t858 => (if t858 = true then (laws_FnExactCountByDistance.j0 k a2 bt842.1 bt842.2 bt854.1 bt854.2 (bt854.2 != bt842.2) a0_0 a0_1 l0_2 a1_0 a1_1 bt846.1 bt846.2.1 bt846.2.2) else (laws_FnExactCountByDistance.j0 k a2 bt842.1 bt842.2 bt854.1 bt854.2 true a0_0 a0_1 l0_2 a1_0 a1_1 bt846.1 bt846.2.1 bt846.2.2))))))))))) = some r := h
 clear h
 replace H := Option.bind_eq_some_iff.mp H
 obtain ⟨t834, A40, H⟩ := H
 replace H : (if t834 < 0 then (some true) else ((laws_toBoard.f k a0_0 a0_1 l0_2).bind fun bt835 => ((laws_toLeaper.f a1_0 a1_1).bind fun bt840 => ((spec_CountByDistance.f k bt835.1 bt835.2.1 bt835.2.2 bt840.1 bt840.2 a2).bind fun bt842 => ((laws_toBoard.f k a0_0 a0_1 l0_2).bind fun bt846 => ((laws_toLeaper.f a1_0 a1_1).bind fun bt852 => ((impl_CountByDistance.f k bt846.1 bt846.2.1 bt846.2.2 bt852.1 bt852.2 a2).bind fun bt854 => ((laws_eqIntS.f k bt854.1 bt842.1).bind fun t858 => (if t858 = true then (laws_FnExactCountByDistance.j0 k a2 bt842.1 bt842.2 bt854.1 bt854.2 (bt854.2 != bt842.2) a0_0 a0_1 l0_2 a1_0 a1_1 bt846.1 bt846.2.1 bt846.2.2) else (laws_FnExactCountByDistance.j0 k a2 bt842.1 bt842.2 bt854.1 bt854.2 true a0_0 a0_1 l0_2 a1_0 a1_1 bt846.1 bt846.2.1 bt846.2.2)))))))))) = some r := H
 have A4 := Aside0.mk A40
 clear A40
 by_cases c5 : t834 < 0
 ·rw [if_pos c5] at H
  have c5b0 : decide (t834 < 0) = true := decide_eq_true c5
  clear c5
  obtain rfl := Option.some.inj H
  go_enter Try.func8, Try.ntmps8
  go_wp2_with (first | ((with_reducible refine gate_dst (N := 3) rfl ?_); refine box_event ?hg (N := 3) ?hd (cs := #[.int .i64 a0_0, .int .i64 a0_1, .slice A0_2 l0_2.length c0_2]) (t := 24) ?hr ?_; (case hd => rfl); (case hg => rfl); (case hr => first | (go_simp; done) | (go_simp; rfl)); intro gb832 hg w6 hbox hb; have n0_ := Aside0.mk (below_step zaf16 hb); have n1_ := Aside0.mk (hbox); have n2_ := Aside0.mk ((by rw [hg]; exact (below_size zaf16) : w.heap.size ≤ gb832)); have n3_ := Aside0.mk ((by rw [hg]; exact (below_size zaf16) : w.heap.size ≤ gb832)); clear HB; have HB := n0_; have BK832 := n1_; have GW832 := n2_; have GE832 := n3_; clear n0_ n1_ n2_ n3_; clear hb hbox hg) | ((with_reducible refine gate_dst (N := 4) rfl ?_); refine box_event ?hg (N := 4) ?hd (cs := #[.int .i64 a1_0, .int .i64 a1_1]) (t := 26) ?hr ?_; (case hd => rfl); (case hg => rfl); (case hr => first | (go_simp; done) | (go_simp; rfl)); intro gb833 hg w7 hbox hb; have n0_ := Aside0.mk (blk_below (g := gb832) (o := .cells #[.int .i64 a0_0, .int .i64 a0_1, .slice A0_2 l0_2.length c0_2] 24 (0, 0)) zaf2 hb); have n1_ := Aside0.mk (below_step zaf15 hb); have n2_ := Aside0.mk (hbox); have n3_ := Aside0.mk ((by rw [hg]; exact (below_size zaf15) : w.heap.size ≤ gb833)); have n4_ := Aside0.mk ((by rw [hg]; exact (below_size zaf15) : w.heap.size ≤ gb833)); have n5_ := Aside0.mk ((zaf40 : gb832 ≠ gb833)); have n6_ := Aside0.mk ((zaf41 : gb833 ≠ gb832)); clear BK832; clear HB; have BK832 := n0_; have HB := n1_; have BK833 := n2_; have GW833 := n3_; have GE833 := n4_; have NB832_833 := n5_; have NB833_832 := n6_; clear n0_ n1_ n2_ n3_ n4_ n5_ n6_; clear hb hbox hg; have hnb8 := NB832_833.out; have hnc8 := NB833_832.out; have hcz9_0 : w7.cell? ⟨gb832, 0, none⟩ = some (.int .i64 a0_0) := (blk_cell BK832.out 0).trans rfl; have hcz9_1 : w7.cell? ⟨gb832, 1, none⟩ = some (.int .i64 a0_1) := (blk_cell BK832.out 1).trans rfl; have hcz9_2 : w7.cell? ⟨gb832, 2, none⟩ = some (.slice A0_2 l0_2.length c0_2) := (blk_cell BK832.out 2).trans rfl; have hfz9_0 := blk_frozen BK832.out 0; have hfz9_1 := blk_frozen BK832.out 1; have hfz9_2 := blk_frozen BK832.out 2) | ((with_reducible refine gate_callee (f := 15) rfl ?_); refine goesL_ (some 20) rfl rfl Try.func15 (by kernel_rfl) rfl #[.agg #[.int .i64 a0_0, .int .i64 a0_1, .slice A0_2 l0_2.length c0_2], .int .i64 1048576] rfl zaf3 ?_; (with_reducible refine (laws_szBoard.calls a0_0 a0_1 _ _ l0_2 1048576 t834 _ ?side1 ?side2 A4.out).mono ?_); (case side1 => exact zaf12); (case side2 => exact HC0_2.out); rintro e w10 ⟨rfl, hb⟩; refine ⟨_, rfl, ?_⟩; have n0_ := Aside0.mk (blk_below (g := gb832) (o := .cells #[.int .i64 a0_0, .int .i64 a0_1, .slice A0_2 l0_2.length c0_2] 24 (0, 0)) zaf2 hb); have n1_ := Aside0.mk (blk_below (g := gb833) (o := .cells #[.int .i64 a1_0, .int .i64 a1_1] 26 (0, 0)) zaf4 hb); have n2_ := Aside0.mk (below_step zaf6 hb); clear BK832; clear BK833; clear HB; have BK832 := n0_; have BK833 := n1_; have HB := n2_; clear n0_ n1_ n2_; (try clear hb); (try clear hb2); (try clear hk); (try clear hi); (try clear hna_); (try clear hnb_)))
  go_ret
  exact ⟨zaf13, zaf6⟩
 rw [if_neg c5] at H
 have c5b0 : decide (t834 < 0) = false := decide_eq_false c5
 clear c5
 replace H := Option.bind_eq_some_iff.mp H
 obtain ⟨⟨t835, t836, t837⟩, A110, H⟩ := H
 replace H : ((laws_toLeaper.f a1_0 a1_1).bind fun bt840 => ((spec_CountByDistance.f k t835 t836 t837 bt840.1 bt840.2 a2).bind fun bt842 => ((laws_toBoard.f k a0_0 a0_1 l0_2).bind fun bt846 => ((laws_toLeaper.f a1_0 a1_1).bind fun bt852 => ((impl_CountByDistance.f k bt846.1 bt846.2.1 bt846.2.2 bt852.1 bt852.2 a2).bind fun bt854 => ((laws_eqIntS.f k bt854.1 bt842.1).bind fun t858 => (if t858 = true then (laws_FnExactCountByDistance.j0 k a2 bt842.1 bt842.2 bt854.1 bt854.2 (bt854.2 != bt842.2) a0_0 a0_1 l0_2 a1_0 a1_1 bt846.1 bt846.2.1 bt846.2.2) else (laws_FnExactCountByDistance.j0 k a2 bt842.1 bt842.2 bt854.1 bt854.2 true a0_0 a0_1 l0_2 a1_0 a1_1 bt846.1 bt846.2.1 bt846.2.2)))))))) = some r := H
 have A11 := Aside0.mk A110
 clear A110
 replace H := Option.bind_eq_some_iff.mp H
 obtain ⟨⟨t840, t841⟩, A120, H⟩ := H
 replace H : ((spec_CountByDistance.f k t835 t836 t837 t840 t841 a2).bind fun bt842 => ((laws_toBoard.f k a0_0 a0_1 l0_2).bind fun bt846 => ((laws_toLeaper.f a1_0 a1_1).bind fun bt852 => ((impl_CountByDistance.f k bt846.1 bt846.2.1 bt846.2.2 bt852.1 bt852.2 a2).bind fun bt854 => ((laws_eqIntS.f k bt854.1 bt842.1).bind fun t858 => (if t858 = true then (laws_FnExactCountByDistance.j0 k a2 bt842.1 bt842.2 bt854.1 bt854.2 (bt854.2 != bt842.2) a0_0 a0_1 l0_2 a1_0 a1_1 bt846.1 bt846.2.1 bt846.2.2) else (laws_FnExactCountByDistance.j0 k a2 bt842.1 bt842.2 bt854.1 bt854.2 true a0_0 a0_1 l0_2 a1_0 a1_1 bt846.1 bt846.2.1 bt846.2.2))))))) = some r := H
 have A12 := Aside0.mk A120
 clear A120
 replace H := Option.bind_eq_some_iff.mp H
 obtain ⟨⟨t842, t845⟩, A130, H⟩ := H
 replace H : ((laws_toBoard.f k a0_0 a0_1 l0_2).bind fun bt846 => ((laws_toLeaper.f a1_0 a1_1).bind fun bt852 => ((impl_CountByDistance.f k bt846.1 bt846.2.1 bt846.2.2 bt852.1 bt852.2 a2).bind fun bt854 => ((laws_eqIntS.f k bt854.1 t842).bind fun t858 => (if t858 = true then (laws_FnExactCountByDistance.j0 k a2 t842 t845 bt854.1 bt854.2 (bt854.2 != t845) a0_0 a0_1 l0_2 a1_0 a1_1 bt846.1 bt846.2.1 bt846.2.2) else (laws_FnExactCountByDistance.j0 k a2 t842 t845 bt854.1 bt854.2 true a0_0 a0_1 l0_2 a1_0 a1_1 bt846.1 bt846.2.1 bt846.2.2)))))) = some r := H
 have A13 := Aside0.mk A130
 clear A130
 replace H := Option.bind_eq_some_iff.mp H
 obtain ⟨⟨t846, t847, t848⟩, A140, H⟩ := H
 replace H : ((laws_toLeaper.f a1_0 a1_1).bind fun bt852 => ((impl_CountByDistance.f k t846 t847 t848 bt852.1 bt852.2 a2).bind fun bt854 => ((laws_eqIntS.f k bt854.1 t842).bind fun t858 => (if t858 = true then (laws_FnExactCountByDistance.j0 k a2 t842 t845 bt854.1 bt854.2 (bt854.2 != t845) a0_0 a0_1 l0_2 a1_0 a1_1 t846 t847 t848) else (laws_FnExactCountByDistance.j0 k a2 t842 t845 bt854.1 bt854.2 true a0_0 a0_1 l0_2 a1_0 a1_1 t846 t847 t848))))) = some r := H
 have A14 := Aside0.mk A140
 clear A140
 replace H := Option.bind_eq_some_iff.mp H
 obtain ⟨⟨t852, t853⟩, A150, H⟩ := H
 replace H : ((impl_CountByDistance.f k t846 t847 t848 t852 t853 a2).bind fun bt854 => ((laws_eqIntS.f k bt854.1 t842).bind fun t858 => (if t858 = true then (laws_FnExactCountByDistance.j0 k a2 t842 t845 bt854.1 bt854.2 (bt854.2 != t845) a0_0 a0_1 l0_2 a1_0 a1_1 t846 t847 t848) else (laws_FnExactCountByDistance.j0 k a2 t842 t845 bt854.1 bt854.2 true a0_0 a0_1 l0_2 a1_0 a1_1 t846 t847 t848)))) = some r := H
 have A15 := Aside0.mk A150
 clear A150
 replace H := Option.bind_eq_some_iff.mp H
 obtain ⟨⟨t854, t857⟩, A160, H⟩ := H
 replace H : ((laws_eqIntS.f k t854 t842).bind fun t858 => (if t858 = true then (laws_FnExactCountByDistance.j0 k a2 t842 t845 t854 t857 (t857 != t845) a0_0 a0_1 l0_2 a1_0 a1_1 t846 t847 t848) else (laws_FnExactCountByDistance.j0 k a2 t842 t845 t854 t857 true a0_0 a0_1 l0_2 a1_0 a1_1 t846 t847 t848))) = some r := H
 have A16 := Aside0.mk A160
 clear A160
 have HC17 := Aside0.mk H
 clear H
 go_enter Try.func8, Try.ntmps8
 try go_wp2_with (first | ((with_reducible refine gate_dst (N := 3) rfl ?_); refine box_event ?hg (N := 3) ?hd (cs := #[.int .i64 a0_0, .int .i64 a0_1, .slice A0_2 l0_2.length c0_2]) (t := 24) ?hr ?_; (case hd => rfl); (case hg => rfl); (case hr => first | (go_simp; done) | (go_simp; rfl)); intro gb832 hg w18 hbox hb; have n0_ := Aside0.mk (below_step zaf16 hb); have n1_ := Aside0.mk (hbox); have n2_ := Aside0.mk ((by rw [hg]; exact (below_size zaf16) : w.heap.size ≤ gb832)); have n3_ := Aside0.mk ((by rw [hg]; exact (below_size zaf16) : w.heap.size ≤ gb832)); clear HB; have HB := n0_; have BK832 := n1_; have GW832 := n2_; have GE832 := n3_; clear n0_ n1_ n2_ n3_; clear hb hbox hg) | ((with_reducible refine gate_dst (N := 4) rfl ?_); refine box_event ?hg (N := 4) ?hd (cs := #[.int .i64 a1_0, .int .i64 a1_1]) (t := 26) ?hr ?_; (case hd => rfl); (case hg => rfl); (case hr => first | (go_simp; done) | (go_simp; rfl)); intro gb833 hg w19 hbox hb; have n0_ := Aside0.mk (blk_below (g := gb832) (o := .cells #[.int .i64 a0_0, .int .i64 a0_1, .slice A0_2 l0_2.length c0_2] 24 (0, 0)) zaf2 hb); have n1_ := Aside0.mk (below_step zaf15 hb); have n2_ := Aside0.mk (hbox); have n3_ := Aside0.mk ((by rw [hg]; exact (below_size zaf15) : w.heap.size ≤ gb833)); have n4_ := Aside0.mk ((by rw [hg]; exact (below_size zaf15) : w.heap.size ≤ gb833)); have n5_ := Aside0.mk ((zaf40 : gb832 ≠ gb833)); have n6_ := Aside0.mk ((zaf41 : gb833 ≠ gb832)); clear BK832; clear HB; have BK832 := n0_; have HB := n1_; have BK833 := n2_; have GW833 := n3_; have GE833 := n4_; have NB832_833 := n5_; have NB833_832 := n6_; clear n0_ n1_ n2_ n3_ n4_ n5_ n6_; clear hb hbox hg; have hnb20 := NB832_833.out; have hnc20 := NB833_832.out; have hcz21_0 : w19.cell? ⟨gb832, 0, none⟩ = some (.int .i64 a0_0) := (blk_cell BK832.out 0).trans rfl; have hcz21_1 : w19.cell? ⟨gb832, 1, none⟩ = some (.int .i64 a0_1) := (blk_cell BK832.out 1).trans rfl; have hcz21_2 : w19.cell? ⟨gb832, 2, none⟩ = some (.slice A0_2 l0_2.length c0_2) := (blk_cell BK832.out 2).trans rfl; have hfz21_0 := blk_frozen BK832.out 0; have hfz21_1 := blk_frozen BK832.out 1; have hfz21_2 := blk_frozen BK832.out 2) | ((with_reducible refine gate_callee (f := 15) rfl ?_); refine goesL_ (some 20) rfl rfl Try.func15 (by kernel_rfl) rfl #[.agg #[.int .i64 a0_0, .int .i64 a0_1, .slice A0_2 l0_2.length c0_2], .int .i64 1048576] rfl zaf3 ?_; (with_reducible refine (laws_szBoard.calls a0_0 a0_1 _ _ l0_2 1048576 t834 _ ?side1 ?side2 A4.out).mono ?_); (case side1 => exact zaf12); (case side2 => exact HC0_2.out); rintro e w22 ⟨rfl, hb⟩; refine ⟨_, rfl, ?_⟩; have n0_ := Aside0.mk (blk_below (g := gb832) (o := .cells #[.int .i64 a0_0, .int .i64 a0_1, .slice A0_2 l0_2.length c0_2] 24 (0, 0)) zaf2 hb); have n1_ := Aside0.mk (blk_below (g := gb833) (o := .cells #[.int .i64 a1_0, .int .i64 a1_1] 26 (0, 0)) zaf4 hb); have n2_ := Aside0.mk (below_step zaf6 hb); clear BK832; clear BK833; clear HB; have BK832 := n0_; have BK833 := n1_; have HB := n2_; clear n0_ n1_ n2_; (try clear hb); (try clear hb2); (try clear hk); (try clear hi); (try clear hna_); (try clear hnb_)))
 have n0_ := Aside0.mk (blk_drew BK832.out)
 have n1_ := Aside0.mk (blk_drew BK833.out)
 have n2_ := Aside0.mk (below_drew1 HB.out)
 clear BK832
 clear BK833
 clear HB
 have BK832 := n0_
 have BK833 := n1_
 have HB := n2_
 clear n0_ n1_ n2_
 refine start_ (n := 11) (S := fun w' => w'.cell? ⟨gb832, 0, none⟩ = some (.int .i64 a0_0) ∧ w'.cell? ⟨gb832, 1, none⟩ = some (.int .i64 a0_1) ∧ w'.cell? ⟨gb832, 2, none⟩ = some (.slice A0_2 l0_2.length c0_2) ∧ w'.cell? ⟨gb833, 0, none⟩ = some (.int .i64 a1_0) ∧ w'.cell? ⟨gb833, 1, none⟩ = some (.int .i64 a1_1)) (ds := []) #[false, false, false, false, false, false, false, false, false, false, false] (by kernel_rfl) rfl rfl ⟨(blk_cell BK832.out 0).trans rfl, (blk_cell BK832.out 1).trans rfl, (blk_cell BK832.out 2).trans rfl, (blk_cell BK833.out 0).trans rfl, (blk_cell BK833.out 1).trans rfl⟩ (fun hHeld => ?_); refine with_tabW laws_FnExactCountByDistance.tab5 laws_FnExactCountByDistance.bits5 (fun HT_ HW_ => ?_)
 generalize w22.drew = w23 at BK832 BK833 HB hHeld ⊢
 refine pure_ (i := 4) (N := some 28) (v := ?_) (a' := ?_) #[false, false, false, false, true, false, false, false, false, false, false] rfl rfl (any_of HT_.out (by kernel_rfl)) (fun _ _ _ h => h) (Or.inl ⟨by rfl, ?_⟩) ?_ ?_
 rotate_left
 ·intro w'
  go_simp
  with_reducible rfl
 rotate_left
 ·simp only [Act.put, List.setIfInBounds_toArray, List.set_cons_zero, List.set_cons_succ, i64_w, i32_w]
  rfl
 refine take_ (i := 0) (N := some 24) (v := ?_) (a' := ?_) #[true, false, false, false, true, false, false, false, false, false, false] rfl rfl (take_ofW HT_.out HW_.out (by kernel_rfl)) (fun _ _ _ h => h) (Or.inl ⟨by rfl, ?_⟩) hHeld ?_ ?_
 rotate_left
 ·rintro w' ⟨s0, s1, s2, s3, s4⟩
  go_simp
  with_reducible rfl
 rotate_left
 ·simp only [Act.put, List.setIfInBounds_toArray, List.set_cons_zero, List.set_cons_succ, i64_w, i32_w]
  rfl
 refine take_ (i := 2) (N := some 26) (v := ?_) (a' := ?_) #[true, false, true, false, true, false, false, false, false, false, false] rfl rfl (take_ofW HT_.out HW_.out (by kernel_rfl)) (fun _ _ _ h => h) (Or.inl ⟨by rfl, ?_⟩) hHeld ?_ ?_
 rotate_left
 ·rintro w' ⟨s0, s1, s2, s3, s4⟩
  go_simp
  with_reducible rfl
 rotate_left
 ·simp only [Act.put, List.setIfInBounds_toArray, List.set_cons_zero, List.set_cons_succ, i64_w, i32_w]
  rfl
 refine one_ (i := 1) (N := some 25) #[true, true, true, false, true, false, false, false, false, false, false] rfl rfl (one_of HT_.out (by kernel_rfl)) (by decide) (fun K hK => ?_)
 refine goes_ Try.func17 (by kernel_rfl) rfl #[.agg #[.int .i64 a0_0, .int .i64 a0_1, .slice A0_2 l0_2.length c0_2]] (by rfl) rfl rfl zaf3 ?_
 with_reducible refine (laws_toBoard.calls k a0_0 a0_1 _ _ l0_2 t835 t836 t837 _ ?side1 ?side2 A11.out).mono ?_
 (case side1 => exact zaf12)
 (case side2 => exact HC0_2.out)
 rintro e w24 ⟨v838, rfl, ho0, hb⟩
 refine ⟨_, rfl, ?_⟩
 have n0_ := Aside0.mk (Kd.R_lower ho0 (below_size zaf6))
 have n1_ := Aside0.mk (blk_below (g := gb832) (o := .cells #[.int .i64 a0_0, .int .i64 a0_1, .slice A0_2 l0_2.length c0_2] 24 (0, 0)) zaf2 hb)
 have n2_ := Aside0.mk (blk_below (g := gb833) (o := .cells #[.int .i64 a1_0, .int .i64 a1_1] 26 (0, 0)) zaf4 hb)
 have n3_ := Aside0.mk (below_step zaf6 hb)
 clear BK832
 clear BK833
 clear HB
 have HO839 := n0_
 have BK832 := n1_
 have BK833 := n2_
 have HB := n3_
 clear n0_ n1_ n2_ n3_
 (try clear hb)
 (try clear hb2)
 (try clear hk)
 (try clear hi)
 (try clear ho0)
 (try clear hna_)
 (try clear hnb_)
 refine hK.out _ _ ⟨(blk_cell BK832.out 0).trans rfl, (blk_cell BK832.out 1).trans rfl, (blk_cell BK832.out 2).trans rfl, (blk_cell BK833.out 0).trans rfl, (blk_cell BK833.out 1).trans rfl⟩ (fun hHeld => ?_)
 clear hK K
 refine norm_ (a' := ?_) ?_ ?_
 rotate_left
 ·show Act.put _ (some 25) _ = _
  simp only [Act.put, List.setIfInBounds_toArray, List.set_cons_zero, List.set_cons_succ, i64_w, i32_w]
  rfl
 refine one_ (i := 3) (N := some 27) #[true, true, true, true, true, false, false, false, false, false, false] rfl rfl (one_of HT_.out (by kernel_rfl)) (by decide) (fun K hK => ?_)
 refine goes_ Try.func18 (by kernel_rfl) rfl #[.agg #[.int .i64 a1_0, .int .i64 a1_1]] (by rfl) rfl rfl zaf3 ?_
 with_reducible refine (laws_toLeaper.calls a1_0 a1_1 t840 t841 _ A12.out).mono ?_
 rintro e w25 ⟨rfl, hb⟩
 refine ⟨_, rfl, ?_⟩
 have n0_ := Aside0.mk (Kd.R_below zaf14 hb)
 have n1_ := Aside0.mk (blk_below (g := gb832) (o := .cells #[.int .i64 a0_0, .int .i64 a0_1, .slice A0_2 l0_2.length c0_2] 24 (0, 0)) zaf2 hb)
 have n2_ := Aside0.mk (blk_below (g := gb833) (o := .cells #[.int .i64 a1_0, .int .i64 a1_1] 26 (0, 0)) zaf4 hb)
 have n3_ := Aside0.mk (below_step zaf6 hb)
 clear HO839
 clear BK832
 clear BK833
 clear HB
 have HO839 := n0_
 have BK832 := n1_
 have BK833 := n2_
 have HB := n3_
 clear n0_ n1_ n2_ n3_
 (try clear hb)
 (try clear hb2)
 (try clear hk)
 (try clear hi)
 (try clear hna_)
 (try clear hnb_)
 obtain ⟨Ao26, co26, eo26⟩ := Kd.R_slice HO839.out
 (first | subst eo26 | (injection eo26 with f1_ f2_ f3_; have f4_ := f1_.symm; have f5_ := f3_.symm; clear f1_ f2_ f3_; subst f4_; subst f5_))
 refine hK.out _ _ ⟨(blk_cell BK832.out 0).trans rfl, (blk_cell BK832.out 1).trans rfl, (blk_cell BK832.out 2).trans rfl, (blk_cell BK833.out 0).trans rfl, (blk_cell BK833.out 1).trans rfl⟩ (fun hHeld => ?_)
 clear hK K
 refine norm_ (a' := ?_) ?_ ?_
 rotate_left
 ·show Act.put _ (some 27) _ = _
  simp only [Act.put, List.setIfInBounds_toArray, List.set_cons_zero, List.set_cons_succ, i64_w, i32_w]
  rfl
 refine one_ (i := 5) (N := some 29) #[true, true, true, true, true, true, false, false, false, false, false] rfl rfl (one_of HT_.out (by kernel_rfl)) (by decide) (fun K hK => ?_)
 refine goes_ Try.func34 (by kernel_rfl) rfl #[.agg #[.int .i64 t835, .int .i64 t836, .slice Ao26 t837.length co26], .agg #[.int .i64 t840, .int .i64 t841], .int .i64 a2] (by rfl) rfl rfl zaf3 ?_
 with_reducible refine (spec_CountByDistance.calls k t835 t836 _ _ t837 t840 t841 a2 t842 t845 _ ?side1 ?side2 A13.out).mono ?_
 (case side1 => repeat (first | exact (Kd.R_reads' HO839.out).2.2 | (with_reducible refine Kd.C_alloc ?_ _) | (with_reducible refine Kd.C_drewN ?_ _) | (with_reducible refine Kd.C_drew ?_)))
 (case side2 => exact (Kd.R_reads' HO839.out).2.1)
 rintro e w27 ⟨v843, rfl, ho0, hb⟩
 refine ⟨_, rfl, ?_⟩
 have n0_ := Aside0.mk (Kd.R_elder' zaf14 (Kd.R_base ho0) hb)
 have n1_ := Aside0.mk (Kd.R_lower (Kd.R_new' ho0 (Kd.R_lt zaf14)) (below_size zaf6))
 have n2_ := Aside0.mk (blk_below (g := gb832) (o := .cells #[.int .i64 a0_0, .int .i64 a0_1, .slice A0_2 l0_2.length c0_2] 24 (0, 0)) zaf2 hb)
 have n3_ := Aside0.mk (blk_below (g := gb833) (o := .cells #[.int .i64 a1_0, .int .i64 a1_1] 26 (0, 0)) zaf4 hb)
 have n4_ := Aside0.mk (below_step zaf6 hb)
 clear HO839
 clear BK832
 clear BK833
 clear HB
 have HO839 := n0_
 have HO844 := n1_
 have BK832 := n2_
 have BK833 := n3_
 have HB := n4_
 clear n0_ n1_ n2_ n3_ n4_
 (try clear hb)
 (try clear hb2)
 (try clear hk)
 (try clear hi)
 (try clear ho0)
 (try clear hna_)
 (try clear hnb_)
 refine hK.out _ _ ⟨(blk_cell BK832.out 0).trans rfl, (blk_cell BK832.out 1).trans rfl, (blk_cell BK832.out 2).trans rfl, (blk_cell BK833.out 0).trans rfl, (blk_cell BK833.out 1).trans rfl⟩ (fun hHeld => ?_)
 clear hK K
 refine norm_ (a' := ?_) ?_ ?_
 rotate_left
 ·show Act.put _ (some 29) _ = _
  simp only [Act.put, List.setIfInBounds_toArray, List.set_cons_zero, List.set_cons_succ, i64_w, i32_w]
  rfl
 refine pure_ (i := 6) (N := some 23) (v := ?_) (a' := ?_) #[true, true, true, true, true, true, true, false, false, false, false] rfl rfl (any_of HT_.out (by kernel_rfl)) (fun _ _ _ h => h) (Or.inl ⟨by rfl, ?_⟩) ?_ ?_
 rotate_left
 ·intro w'
  go_simp
  with_reducible rfl
 rotate_left
 ·simp only [Act.put, List.setIfInBounds_toArray, List.set_cons_zero, List.set_cons_succ, i64_w, i32_w]
  rfl
 refine pure_ (i := 7) (N := some 30) (v := ?_) (a' := ?_) #[true, true, true, true, true, true, true, true, false, false, false] rfl rfl (any_of HT_.out (by kernel_rfl)) (fun _ _ _ h => h) (Or.inl ⟨by rfl, ?_⟩) ?_ ?_
 rotate_left
 ·intro w'
  go_simp
  with_reducible rfl
 rotate_left
 ·simp only [Act.put, List.setIfInBounds_toArray, List.set_cons_zero, List.set_cons_succ, i64_w, i32_w]
  rfl
 refine pure_ (i := 8) (N := some 31) (v := ?_) (a' := ?_) #[true, true, true, true, true, true, true, true, true, false, false] rfl rfl (any_of HT_.out (by kernel_rfl)) (fun _ _ _ h => h) (Or.inl ⟨by rfl, ?_⟩) ?_ ?_
 rotate_left
 ·intro w'
  go_simp
  with_reducible rfl
 rotate_left
 ·simp only [Act.put, List.setIfInBounds_toArray, List.set_cons_zero, List.set_cons_succ, i64_w, i32_w]
  rfl
 refine pure_ (i := 9) (N := some 8) (v := ?_) (a' := ?_) #[true, true, true, true, true, true, true, true, true, true, false] rfl rfl (any_of HT_.out (by kernel_rfl)) (fun _ _ _ h => h) (Or.inl ⟨by rfl, ?_⟩) ?_ ?_
 rotate_left
 ·intro w'
  go_simp
  with_reducible rfl
 rotate_left
 ·simp only [Act.put, List.setIfInBounds_toArray, List.set_cons_zero, List.set_cons_succ, i64_w, i32_w]
  rfl
 refine pure_ (i := 10) (N := some 9) (v := ?_) (a' := ?_) #[true, true, true, true, true, true, true, true, true, true, true] rfl rfl (any_of HT_.out (by kernel_rfl)) (fun _ _ _ h => h) (Or.inl ⟨by rfl, ?_⟩) ?_ ?_
 rotate_left
 ·intro w'
  go_simp
  with_reducible rfl
 rotate_left
 ·simp only [Act.put, List.setIfInBounds_toArray, List.set_cons_zero, List.set_cons_succ, i64_w, i32_w]
  rfl
 refine done_ (done_of HT_.out (by kernel_rfl)) ?_
 have hcz28_0 : w27.cell? ⟨gb832, 0, none⟩ = some (.int .i64 a0_0) := (blk_cell BK832.out 0).trans rfl
 have hcz28_1 : w27.cell? ⟨gb832, 1, none⟩ = some (.int .i64 a0_1) := (blk_cell BK832.out 1).trans rfl
 have hcz28_2 : w27.cell? ⟨gb832, 2, none⟩ = some (.slice A0_2 l0_2.length c0_2) := (blk_cell BK832.out 2).trans rfl
 have hfz28_0 := blk_frozen BK832.out 0
 have hfz28_1 := blk_frozen BK832.out 1
 have hfz28_2 := blk_frozen BK832.out 2
 try go_wp2_with (first | ((with_reducible refine gate_callee (f := 17) rfl ?_); refine goesL_ (some 33) rfl rfl Try.func17 (by kernel_rfl) rfl #[.agg #[.int .i64 a0_0, .int .i64 a0_1, .slice A0_2 l0_2.length c0_2]] rfl zaf3 ?_; (with_reducible refine (laws_toBoard.calls k a0_0 a0_1 _ _ l0_2 t846 t847 t848 _ ?side1 ?side2 A14.out).mono ?_); (case side1 => exact zaf12); (case side2 => exact HC0_2.out); rintro e w29 ⟨v849, rfl, ho0, hb⟩; refine ⟨_, rfl, ?_⟩; have n0_ := Aside0.mk (Kd.R_elder' zaf14 (Kd.R_base ho0) hb); have n1_ := Aside0.mk (Kd.R_elder' zaf17 (Kd.R_base ho0) hb); have n2_ := Aside0.mk (Kd.R_lower (Kd.R_new' (Kd.R_new' ho0 (Kd.R_lt zaf14)) (Kd.R_lt zaf17)) (below_size zaf6)); have n3_ := Aside0.mk (blk_below (g := gb832) (o := .cells #[.int .i64 a0_0, .int .i64 a0_1, .slice A0_2 l0_2.length c0_2] 24 (0, 0)) zaf2 hb); have n4_ := Aside0.mk (blk_below (g := gb833) (o := .cells #[.int .i64 a1_0, .int .i64 a1_1] 26 (0, 0)) zaf4 hb); have n5_ := Aside0.mk (below_step zaf6 hb); clear HO839; clear HO844; clear BK832; clear BK833; clear HB; have HO839 := n0_; have HO844 := n1_; have HO850 := n2_; have BK832 := n3_; have BK833 := n4_; have HB := n5_; clear n0_ n1_ n2_ n3_ n4_ n5_; (try clear hb); (try clear hb2); (try clear hk); (try clear hi); (try clear ho0); (try clear hna_); (try clear hnb_)) | ((with_reducible refine gate_dst (N := 10) rfl ?_); refine box_event ?hg (N := 10) ?hd (cs := #[.int .i64 0, .int .i64 0, .slice none 0 0]) (t := 30) ?hr ?_; (case hd => rfl); (case hg => rfl); (case hr => first | (go_simp; done) | (go_simp; rfl)); intro gb851 hg w30 hbox hb; have n0_ := Aside0.mk (Kd.R_below zaf14 hb); have n1_ := Aside0.mk (Kd.R_below zaf17 hb); have n2_ := Aside0.mk (Kd.R_below zaf20 hb); have n3_ := Aside0.mk (blk_below (g := gb832) (o := .cells #[.int .i64 a0_0, .int .i64 a0_1, .slice A0_2 l0_2.length c0_2] 24 (0, 0)) zaf2 hb); have n4_ := Aside0.mk (blk_below (g := gb833) (o := .cells #[.int .i64 a1_0, .int .i64 a1_1] 26 (0, 0)) zaf4 hb); have n5_ := Aside0.mk (below_step zaf6 hb); have n6_ := Aside0.mk (hbox); have n7_ := Aside0.mk ((by rw [hg]; exact (below_size zaf6) : w.heap.size ≤ gb851)); have n8_ := Aside0.mk ((by rw [hg]; exact (below_size zaf6) : w.heap.size ≤ gb851)); have n9_ := Aside0.mk ((zaf40 : gb832 ≠ gb851)); have n10_ := Aside0.mk ((zaf41 : gb851 ≠ gb832)); have n11_ := Aside0.mk ((by rw [hg]; exact Nat.ne_of_lt (blk_lt (g := gb833) (o := .cells #[.int .i64 a1_0, .int .i64 a1_1] 26 (0, 0)) zaf4) : gb833 ≠ gb851)); have n12_ := Aside0.mk ((by rw [hg]; exact Nat.ne_of_gt (blk_lt (g := gb833) (o := .cells #[.int .i64 a1_0, .int .i64 a1_1] 26 (0, 0)) zaf4) : gb851 ≠ gb833)); clear HO839; clear HO844; clear HO850; clear BK832; clear BK833; clear HB; have HO839 := n0_; have HO844 := n1_; have HO850 := n2_; have BK832 := n3_; have BK833 := n4_; have HB := n5_; have BK851 := n6_; have GW851 := n7_; have GE851 := n8_; have NB832_851 := n9_; have NB851_832 := n10_; have NB833_851 := n11_; have NB851_833 := n12_; clear n0_ n1_ n2_ n3_ n4_ n5_ n6_ n7_ n8_ n9_ n10_ n11_ n12_; clear hb hbox hg; have hnb31 := NB851_832.out; have hnc31 := NB832_851.out; have hnb32 := NB851_833.out; have hnc32 := NB833_851.out; have hcz33_0 : w30.cell? ⟨gb851, 0, none⟩ = some (.int .i64 0) := (blk_cell BK851.out 0).trans rfl; have hcz33_1 : w30.cell? ⟨gb851, 1, none⟩ = some (.int .i64 0) := (blk_cell BK851.out 1).trans rfl; have hcz33_2 : w30.cell? ⟨gb851, 2, none⟩ = some (.slice none 0 0) := (blk_cell BK851.out 2).trans rfl; have hfz33_0 := blk_frozen BK851.out 0; have hfz33_1 := blk_frozen BK851.out 1; have hfz33_2 := blk_frozen BK851.out 2; obtain ⟨Ao34, co34, eo34⟩ := Kd.R_slice HO850.out; subst eo34))
 have n0_ : Aside0 (Kd.R (Kd.int .i64) 3 (((w30.setCell ⟨gb851, 0, none⟩ (.int .i64 t846)).setCell ⟨gb851, 1, none⟩ (.int .i64 t847)).setCell ⟨gb851, 2, none⟩ (.slice Ao34 t848.length co34)) w.heap.size (fun k_ => some k_ ≠ (v843 : Value).ownBlock ∧ some k_ ≠ (.slice Ao34 t848.length co34 : Value).ownBlock) (.slice Ao26 t837.length co26) t837) := ⟨by (with_reducible repeat (first | apply Kd.R_alloc | apply Kd.R_drewN | apply Kd.R_drew)); exact Kd.R_mono (Kd.R_far (p := ⟨gb851, 2, none⟩) (Kd.R_far (p := ⟨gb851, 1, none⟩) (Kd.R_far (p := ⟨gb851, 0, none⟩) (Kd.R_types HO839.out BK851.out (by decide)) (fun _ hk => hk.2) (.int .i64 t846)) (fun _ hk => hk.2) (.int .i64 t847)) (fun _ hk => hk.2) (.slice Ao34 t848.length co34)) (fun _ hk => ⟨hk.1.1.2, hk.1.2⟩)⟩
 have n1_ : Aside0 (Kd.R (Kd.int .i64) 3 (((w30.setCell ⟨gb851, 0, none⟩ (.int .i64 t846)).setCell ⟨gb851, 1, none⟩ (.int .i64 t847)).setCell ⟨gb851, 2, none⟩ (.slice Ao34 t848.length co34)) w.heap.size (fun k_ => some k_ ≠ (.slice Ao26 t837.length co26 : Value).ownBlock ∧ some k_ ≠ (.slice Ao34 t848.length co34 : Value).ownBlock) v843 t842) := ⟨by (with_reducible repeat (first | apply Kd.R_alloc | apply Kd.R_drewN | apply Kd.R_drew)); exact Kd.R_mono (Kd.R_far (p := ⟨gb851, 2, none⟩) (Kd.R_far (p := ⟨gb851, 1, none⟩) (Kd.R_far (p := ⟨gb851, 0, none⟩) (Kd.R_types HO844.out BK851.out (by decide)) (fun _ hk => hk.2) (.int .i64 t846)) (fun _ hk => hk.2) (.int .i64 t847)) (fun _ hk => hk.2) (.slice Ao34 t848.length co34)) (fun _ hk => ⟨hk.1.1.2, hk.1.2⟩)⟩
 have n2_ : Aside0 (Kd.R (Kd.int .i64) 3 (((w30.setCell ⟨gb851, 0, none⟩ (.int .i64 t846)).setCell ⟨gb851, 1, none⟩ (.int .i64 t847)).setCell ⟨gb851, 2, none⟩ (.slice Ao34 t848.length co34)) w.heap.size (fun k_ => some k_ ≠ (.slice Ao26 t837.length co26 : Value).ownBlock ∧ some k_ ≠ (v843 : Value).ownBlock) (.slice Ao34 t848.length co34) t848) := ⟨by (with_reducible repeat (first | apply Kd.R_alloc | apply Kd.R_drewN | apply Kd.R_drew)); exact Kd.R_mono (Kd.R_far (p := ⟨gb851, 2, none⟩) (Kd.R_far (p := ⟨gb851, 1, none⟩) (Kd.R_far (p := ⟨gb851, 0, none⟩) (Kd.R_types HO850.out BK851.out (by decide)) (fun _ hk => hk.2) (.int .i64 t846)) (fun _ hk => hk.2) (.int .i64 t847)) (fun _ hk => hk.2) (.slice Ao34 t848.length co34)) (fun _ hk => ⟨hk.1.1.2, hk.1.2⟩)⟩
 have n3_ : Aside0 ((((w30.setCell ⟨gb851, 0, none⟩ (.int .i64 t846)).setCell ⟨gb851, 1, none⟩ (.int .i64 t847)).setCell ⟨gb851, 2, none⟩ (.slice Ao34 t848.length co34)).heap[gb832]? = some (.cells #[.int .i64 a0_0, .int .i64 a0_1, .slice A0_2 l0_2.length c0_2] 24 (0, 0))) := ⟨by (with_reducible repeat (first | refine blk_drewN ?_ _ | refine blk_drew ?_ | refine blk_alloc ?_ _)); refine blk_far ?_ NB832_851.out _; (with_reducible repeat (first | refine blk_drewN ?_ _ | refine blk_drew ?_ | refine blk_alloc ?_ _)); refine blk_far ?_ NB832_851.out _; (with_reducible repeat (first | refine blk_drewN ?_ _ | refine blk_drew ?_ | refine blk_alloc ?_ _)); refine blk_far ?_ NB832_851.out _; (with_reducible repeat (first | refine blk_drewN ?_ _ | refine blk_drew ?_ | refine blk_alloc ?_ _)); exact BK832.out⟩
 have n4_ : Aside0 ((((w30.setCell ⟨gb851, 0, none⟩ (.int .i64 t846)).setCell ⟨gb851, 1, none⟩ (.int .i64 t847)).setCell ⟨gb851, 2, none⟩ (.slice Ao34 t848.length co34)).heap[gb833]? = some (.cells #[.int .i64 a1_0, .int .i64 a1_1] 26 (0, 0))) := ⟨by (with_reducible repeat (first | refine blk_drewN ?_ _ | refine blk_drew ?_ | refine blk_alloc ?_ _)); refine blk_far ?_ NB833_851.out _; (with_reducible repeat (first | refine blk_drewN ?_ _ | refine blk_drew ?_ | refine blk_alloc ?_ _)); refine blk_far ?_ NB833_851.out _; (with_reducible repeat (first | refine blk_drewN ?_ _ | refine blk_drew ?_ | refine blk_alloc ?_ _)); refine blk_far ?_ NB833_851.out _; (with_reducible repeat (first | refine blk_drewN ?_ _ | refine blk_drew ?_ | refine blk_alloc ?_ _)); exact BK833.out⟩
 have n5_ : Aside0 ((((w30.setCell ⟨gb851, 0, none⟩ (.int .i64 t846)).setCell ⟨gb851, 1, none⟩ (.int .i64 t847)).setCell ⟨gb851, 2, none⟩ (.slice Ao34 t848.length co34)).heap[gb851]? = some (.cells #[.int .i64 t846, .int .i64 t847, .slice Ao34 t848.length co34] 30 (0, 0))) := ⟨by (with_reducible repeat (first | refine blk_drewN ?_ _ | refine blk_drew ?_ | refine blk_alloc ?_ _)); refine blk_put (cs := #[.int .i64 t846, .int .i64 t847, .slice none 0 0]) ?_ 2 _ rfl; (with_reducible repeat (first | refine blk_drewN ?_ _ | refine blk_drew ?_ | refine blk_alloc ?_ _)); refine blk_put (cs := #[.int .i64 t846, .int .i64 0, .slice none 0 0]) ?_ 1 _ rfl; (with_reducible repeat (first | refine blk_drewN ?_ _ | refine blk_drew ?_ | refine blk_alloc ?_ _)); refine blk_put (cs := #[.int .i64 0, .int .i64 0, .slice none 0 0]) ?_ 0 _ rfl; (with_reducible repeat (first | refine blk_drewN ?_ _ | refine blk_drew ?_ | refine blk_alloc ?_ _)); exact BK851.out⟩
 have n6_ : Aside0 (Below w.heap.size w (((w30.setCell ⟨gb851, 0, none⟩ (.int .i64 t846)).setCell ⟨gb851, 1, none⟩ (.int .i64 t847)).setCell ⟨gb851, 2, none⟩ (.slice Ao34 t848.length co34))) := ⟨zaf1⟩
 (try clear HO839)
 (try clear HO844)
 (try clear HO850)
 (try clear BK832)
 (try clear BK833)
 (try clear BK851)
 (try clear HB)
 generalize (((w30.setCell ⟨gb851, 0, none⟩ (.int .i64 t846)).setCell ⟨gb851, 1, none⟩ (.int .i64 t847)).setCell ⟨gb851, 2, none⟩ (.slice Ao34 t848.length co34)) = w35 at n0_ n1_ n2_ n3_ n4_ n5_ n6_ ⊢
 have HO839 := n0_
 have HO844 := n1_
 have HO850 := n2_
 have BK832 := n3_
 have BK833 := n4_
 have BK851 := n5_
 have HB := n6_
 clear n0_ n1_ n2_ n3_ n4_ n5_ n6_
 have n0_ := Aside0.mk (Kd.R_drew HO839.out)
 have n1_ := Aside0.mk (Kd.R_drew HO844.out)
 have n2_ := Aside0.mk (Kd.R_drew HO850.out)
 have n3_ := Aside0.mk (blk_drew BK832.out)
 have n4_ := Aside0.mk (blk_drew BK833.out)
 have n5_ := Aside0.mk (blk_drew BK851.out)
 have n6_ := Aside0.mk (below_drew1 HB.out)
 clear HO839
 clear HO844
 clear HO850
 clear BK832
 clear BK833
 clear BK851
 clear HB
 have HO839 := n0_
 have HO844 := n1_
 have HO850 := n2_
 have BK832 := n3_
 have BK833 := n4_
 have BK851 := n5_
 have HB := n6_
 clear n0_ n1_ n2_ n3_ n4_ n5_ n6_
 refine start_ (n := 10) (S := fun w' => w'.cell? ⟨gb851, 0, none⟩ = some (.int .i64 t846) ∧ w'.cell? ⟨gb851, 1, none⟩ = some (.int .i64 t847) ∧ w'.cell? ⟨gb851, 2, none⟩ = some (.slice Ao34 t848.length co34) ∧ w'.cell? ⟨gb833, 0, none⟩ = some (.int .i64 a1_0) ∧ w'.cell? ⟨gb833, 1, none⟩ = some (.int .i64 a1_1)) (ds := []) #[false, false, false, false, false, false, false, false, false, false] (by kernel_rfl) rfl rfl ⟨(blk_cell BK851.out 0).trans rfl, (blk_cell BK851.out 1).trans rfl, (blk_cell BK851.out 2).trans rfl, (blk_cell BK833.out 0).trans rfl, (blk_cell BK833.out 1).trans rfl⟩ (fun hHeld => ?_); refine with_tabW laws_FnExactCountByDistance.tab7 laws_FnExactCountByDistance.bits7 (fun HT_ HW_ => ?_)
 generalize w35.drew = w36 at HO839 HO844 HO850 BK832 BK833 BK851 HB hHeld ⊢
 refine pure_ (i := 3) (N := some 38) (v := ?_) (a' := ?_) #[false, false, false, true, false, false, false, false, false, false] rfl rfl (any_of HT_.out (by kernel_rfl)) (fun _ _ _ h => h) (Or.inl ⟨by rfl, ?_⟩) ?_ ?_
 rotate_left
 ·intro w'
  go_simp
  with_reducible rfl
 rotate_left
 ·simp only [Act.put, List.setIfInBounds_toArray, List.set_cons_zero, List.set_cons_succ, i64_w, i32_w]
  rfl
 refine take_ (i := 0) (N := some 35) (v := ?_) (a' := ?_) #[true, false, false, true, false, false, false, false, false, false] rfl rfl (take_ofW HT_.out HW_.out (by kernel_rfl)) (fun _ _ _ h => h) (Or.inl ⟨by rfl, ?_⟩) hHeld ?_ ?_
 rotate_left
 ·rintro w' ⟨s0, s1, s2, s3, s4⟩
  go_simp
  with_reducible rfl
 rotate_left
 ·simp only [Act.put, List.setIfInBounds_toArray, List.set_cons_zero, List.set_cons_succ, i64_w, i32_w]
  rfl
 refine take_ (i := 1) (N := some 36) (v := ?_) (a' := ?_) #[true, true, false, true, false, false, false, false, false, false] rfl rfl (take_ofW HT_.out HW_.out (by kernel_rfl)) (fun _ _ _ h => h) (Or.inl ⟨by rfl, ?_⟩) hHeld ?_ ?_
 rotate_left
 ·rintro w' ⟨s0, s1, s2, s3, s4⟩
  go_simp
  with_reducible rfl
 rotate_left
 ·simp only [Act.put, List.setIfInBounds_toArray, List.set_cons_zero, List.set_cons_succ, i64_w, i32_w]
  rfl
 refine one_ (i := 2) (N := some 37) #[true, true, true, true, false, false, false, false, false, false] rfl rfl (one_of HT_.out (by kernel_rfl)) (by decide) (fun K hK => ?_)
 refine goes_ Try.func18 (by kernel_rfl) rfl #[.agg #[.int .i64 a1_0, .int .i64 a1_1]] (by rfl) rfl rfl zaf3 ?_
 with_reducible refine (laws_toLeaper.calls a1_0 a1_1 t852 t853 _ A15.out).mono ?_
 rintro e w37 ⟨rfl, hb⟩
 refine ⟨_, rfl, ?_⟩
 have n0_ := Aside0.mk (Kd.R_below zaf14 hb)
 have n1_ := Aside0.mk (Kd.R_below zaf17 hb)
 have n2_ := Aside0.mk (Kd.R_below zaf20 hb)
 have n3_ := Aside0.mk (blk_below (g := gb832) (o := .cells #[.int .i64 a0_0, .int .i64 a0_1, .slice A0_2 l0_2.length c0_2] 24 (0, 0)) zaf2 hb)
 have n4_ := Aside0.mk (blk_below (g := gb833) (o := .cells #[.int .i64 a1_0, .int .i64 a1_1] 26 (0, 0)) zaf4 hb)
 have n5_ := Aside0.mk (blk_below (g := gb851) (o := .cells #[.int .i64 t846, .int .i64 t847, .slice Ao34 t848.length co34] 30 (0, 0)) zaf7 hb)
 have n6_ := Aside0.mk (below_step zaf1 hb)
 clear HO839
 clear HO844
 clear HO850
 clear BK832
 clear BK833
 clear BK851
 clear HB
 have HO839 := n0_
 have HO844 := n1_
 have HO850 := n2_
 have BK832 := n3_
 have BK833 := n4_
 have BK851 := n5_
 have HB := n6_
 clear n0_ n1_ n2_ n3_ n4_ n5_ n6_
 (try clear hb)
 (try clear hb2)
 (try clear hk)
 (try clear hi)
 (try clear hna_)
 (try clear hnb_)
 refine hK.out _ _ ⟨(blk_cell BK851.out 0).trans rfl, (blk_cell BK851.out 1).trans rfl, (blk_cell BK851.out 2).trans rfl, (blk_cell BK833.out 0).trans rfl, (blk_cell BK833.out 1).trans rfl⟩ (fun hHeld => ?_)
 clear hK K
 refine norm_ (a' := ?_) ?_ ?_
 rotate_left
 ·show Act.put _ (some 37) _ = _
  simp only [Act.put, List.setIfInBounds_toArray, List.set_cons_zero, List.set_cons_succ, i64_w, i32_w]
  rfl
 refine one_ (i := 4) (N := some 39) #[true, true, true, true, true, false, false, false, false, false] rfl rfl (one_of HT_.out (by kernel_rfl)) (by decide) (fun K hK => ?_)
 refine goes_ Try.func35 (by kernel_rfl) rfl #[.agg #[.int .i64 t846, .int .i64 t847, .slice Ao34 t848.length co34], .agg #[.int .i64 t852, .int .i64 t853], .int .i64 a2] (by rfl) rfl rfl zaf3 ?_
 with_reducible refine (impl_CountByDistance.calls k t846 t847 _ _ t848 t852 t853 a2 t854 t857 _ ?side1 ?side2 A16.out).mono ?_
 (case side1 => repeat (first | exact (Kd.R_reads' HO850.out).2.2 | (with_reducible refine Kd.C_alloc ?_ _) | (with_reducible refine Kd.C_drewN ?_ _) | (with_reducible refine Kd.C_drew ?_)))
 (case side2 => exact (Kd.R_reads' HO850.out).2.1)
 rintro e w38 ⟨v855, rfl, ho0, hb⟩
 refine ⟨_, rfl, ?_⟩
 have n0_ := Aside0.mk (Kd.R_elder' zaf14 (Kd.R_base ho0) hb)
 have n1_ := Aside0.mk (Kd.R_elder' zaf17 (Kd.R_base ho0) hb)
 have n2_ := Aside0.mk (Kd.R_elder' zaf20 (Kd.R_base ho0) hb)
 have n3_ := Aside0.mk (Kd.R_lower (Kd.R_new' (Kd.R_new' (Kd.R_new' ho0 (Kd.R_lt zaf14)) (Kd.R_lt zaf17)) (Kd.R_lt zaf20)) (below_size zaf1))
 have n4_ := Aside0.mk (blk_below (g := gb832) (o := .cells #[.int .i64 a0_0, .int .i64 a0_1, .slice A0_2 l0_2.length c0_2] 24 (0, 0)) zaf2 hb)
 have n5_ := Aside0.mk (blk_below (g := gb833) (o := .cells #[.int .i64 a1_0, .int .i64 a1_1] 26 (0, 0)) zaf4 hb)
 have n6_ := Aside0.mk (blk_below (g := gb851) (o := .cells #[.int .i64 t846, .int .i64 t847, .slice Ao34 t848.length co34] 30 (0, 0)) zaf7 hb)
 have n7_ := Aside0.mk (below_step zaf1 hb)
 clear HO839
 clear HO844
 clear HO850
 clear BK832
 clear BK833
 clear BK851
 clear HB
 have HO839 := n0_
 have HO844 := n1_
 have HO850 := n2_
 have HO856 := n3_
 have BK832 := n4_
 have BK833 := n5_
 have BK851 := n6_
 have HB := n7_
 clear n0_ n1_ n2_ n3_ n4_ n5_ n6_ n7_
 (try clear hb)
 (try clear hb2)
 (try clear hk)
 (try clear hi)
 (try clear ho0)
 (try clear hna_)
 (try clear hnb_)
 refine hK.out _ _ ⟨(blk_cell BK851.out 0).trans rfl, (blk_cell BK851.out 1).trans rfl, (blk_cell BK851.out 2).trans rfl, (blk_cell BK833.out 0).trans rfl, (blk_cell BK833.out 1).trans rfl⟩ (fun hHeld => ?_)
 clear hK K
 refine norm_ (a' := ?_) ?_ ?_
 rotate_left
 ·show Act.put _ (some 39) _ = _
  simp only [Act.put, List.setIfInBounds_toArray, List.set_cons_zero, List.set_cons_succ, i64_w, i32_w]
  rfl
 refine pure_ (i := 5) (N := some 34) (v := ?_) (a' := ?_) #[true, true, true, true, true, true, false, false, false, false] rfl rfl (any_of HT_.out (by kernel_rfl)) (fun _ _ _ h => h) (Or.inl ⟨by rfl, ?_⟩) ?_ ?_
 rotate_left
 ·intro w'
  go_simp
  with_reducible rfl
 rotate_left
 ·simp only [Act.put, List.setIfInBounds_toArray, List.set_cons_zero, List.set_cons_succ, i64_w, i32_w]
  rfl
 refine pure_ (i := 6) (N := some 40) (v := ?_) (a' := ?_) #[true, true, true, true, true, true, true, false, false, false] rfl rfl (any_of HT_.out (by kernel_rfl)) (fun _ _ _ h => h) (Or.inl ⟨by rfl, ?_⟩) ?_ ?_
 rotate_left
 ·intro w'
  go_simp
  with_reducible rfl
 rotate_left
 ·simp only [Act.put, List.setIfInBounds_toArray, List.set_cons_zero, List.set_cons_succ, i64_w, i32_w]
  rfl
 refine pure_ (i := 7) (N := some 41) (v := ?_) (a' := ?_) #[true, true, true, true, true, true, true, true, false, false] rfl rfl (any_of HT_.out (by kernel_rfl)) (fun _ _ _ h => h) (Or.inl ⟨by rfl, ?_⟩) ?_ ?_
 rotate_left
 ·intro w'
  go_simp
  with_reducible rfl
 rotate_left
 ·simp only [Act.put, List.setIfInBounds_toArray, List.set_cons_zero, List.set_cons_succ, i64_w, i32_w]
  rfl
 refine pure_ (i := 8) (N := some 11) (v := ?_) (a' := ?_) #[true, true, true, true, true, true, true, true, true, false] rfl rfl (any_of HT_.out (by kernel_rfl)) (fun _ _ _ h => h) (Or.inl ⟨by rfl, ?_⟩) ?_ ?_
 rotate_left
 ·intro w'
  go_simp
  with_reducible rfl
 rotate_left
 ·simp only [Act.put, List.setIfInBounds_toArray, List.set_cons_zero, List.set_cons_succ, i64_w, i32_w]
  rfl
 refine pure_ (i := 9) (N := some 12) (v := ?_) (a' := ?_) #[true, true, true, true, true, true, true, true, true, true] rfl rfl (any_of HT_.out (by kernel_rfl)) (fun _ _ _ h => h) (Or.inl ⟨by rfl, ?_⟩) ?_ ?_
 rotate_left
 ·intro w'
  go_simp
  with_reducible rfl
 rotate_left
 ·simp only [Act.put, List.setIfInBounds_toArray, List.set_cons_zero, List.set_cons_succ, i64_w, i32_w]
  rfl
 refine done_ (done_of HT_.out (by kernel_rfl)) ?_
 go_upto_region 8 with (fail)
 go_cut [50] (fun v50 wc => ∃ (kq : Nat) (x50_16 : Bool), v50 = .bool x50_16 ∧ Aside0 (laws_FnExactCountByDistance.j0 kq a2 t842 t845 t854 t857 x50_16 a0_0 a0_1 l0_2 a1_0 a1_1 t846 t847 t848 = some r) ∧ Aside0 (kq ≤ k) ∧ Aside0 (Kd.R (Kd.int .i64) 3 wc w.heap.size (fun k_ => some k_ ≠ (v855 : Value).ownBlock ∧ some k_ ≠ ((.slice Ao34 t848.length co34) : Value).ownBlock) v843 t842) ∧ Aside0 (Kd.R (Kd.int .i64) 3 wc w.heap.size (fun k_ => some k_ ≠ (v843 : Value).ownBlock ∧ some k_ ≠ ((.slice Ao34 t848.length co34) : Value).ownBlock) v855 t854) ∧ Aside0 (Kd.R (Kd.int .i64) 3 wc w.heap.size (fun k_ => some k_ ≠ (v843 : Value).ownBlock ∧ some k_ ≠ (v855 : Value).ownBlock) (.slice Ao34 t848.length co34) t848) ∧ Aside0 (wc.heap[gb832]? = some (.cells #[.int .i64 a0_0, .int .i64 a0_1, (.slice A0_2 l0_2.length c0_2)] 24 (0, 0))) ∧ Aside0 (wc.heap[gb833]? = some (.cells #[.int .i64 a1_0, .int .i64 a1_1] 26 (0, 0))) ∧ Aside0 (wc.heap[gb851]? = some (.cells #[.int .i64 t846, .int .i64 t847, (.slice Ao34 t848.length co34)] 30 (0, 0))) ∧ Aside0 (Below w.heap.size w wc))
 case first =>
  have H := HC17.out
  clear HC17
  replace H := Option.bind_eq_some_iff.mp H
  obtain ⟨t858, A390, H⟩ := H
  replace H : (if t858 = true then (laws_FnExactCountByDistance.j0 k a2 t842 t845 t854 t857 (t857 != t845) a0_0 a0_1 l0_2 a1_0 a1_1 t846 t847 t848) else (laws_FnExactCountByDistance.j0 k a2 t842 t845 t854 t857 true a0_0 a0_1 l0_2 a1_0 a1_1 t846 t847 t848)) = some r := H
  have A39 := Aside0.mk A390
  clear A390
  by_cases c40 : t858 = true
  ·subst c40
   have H1 : (laws_FnExactCountByDistance.j0 k a2 t842 t845 t854 t857 (t857 != t845) a0_0 a0_1 l0_2 a1_0 a1_1 t846 t847 t848) = some r := by rw [if_pos rfl] at H; exact H
   clear H
   have H := H1
   clear H1
   have H' := Aside0.mk H
   clear H
   obtain ⟨Ao41, co41, eo41⟩ := Kd.R_slice HO856.out
   subst eo41
   obtain ⟨Ao42, co42, eo42⟩ := Kd.R_slice HO844.out
   subst eo42
   go_wp2_with (first | ((with_reducible refine gate_callee (f := 21) rfl ?_); refine goesL_ (some 44) rfl rfl Try.func21 (by kernel_rfl) rfl #[.slice Ao41 t854.length co41, .slice Ao42 t842.length co42] rfl zaf3 ?_; (with_reducible refine (laws_eqIntS.calls k _ _ t854 _ _ t842 true _ ?side1 ?side2 ?side3 ?side4 A39.out).mono ?_); (case side1 => exact zaf32); (case side2 => exact (Kd.R_reads' HO856.out).2.1); (case side3 => exact zaf33); (case side4 => exact (Kd.R_reads' HO844.out).2.1); rintro e w' ⟨rfl, ⟨nd, rfl⟩⟩; refine ⟨_, rfl, ?_⟩))
   go_meet
   case rel => exact ⟨_, ((t857 != t845)), zaf24, H', ⟨by first | omega | exact Nat.le_refl _⟩, ⟨zaf39⟩, ⟨zaf37⟩, ⟨zaf38⟩, ⟨zaf2⟩, ⟨zaf4⟩, ⟨zaf7⟩, ⟨zaf1⟩⟩
  replace c40 := Bool.eq_false_iff.mpr c40
  subst c40
  have H1 : (laws_FnExactCountByDistance.j0 k a2 t842 t845 t854 t857 true a0_0 a0_1 l0_2 a1_0 a1_1 t846 t847 t848) = some r := by rw [if_neg (show ¬ (false = true) by decide)] at H; exact H
  clear H
  have H := H1
  clear H1
  have H' := Aside0.mk H
  clear H
  obtain ⟨Ao43, co43, eo43⟩ := Kd.R_slice HO856.out
  subst eo43
  obtain ⟨Ao44, co44, eo44⟩ := Kd.R_slice HO844.out
  subst eo44
  go_wp2_with (first | ((with_reducible refine gate_callee (f := 21) rfl ?_); refine goesL_ (some 44) rfl rfl Try.func21 (by kernel_rfl) rfl #[.slice Ao43 t854.length co43, .slice Ao44 t842.length co44] rfl zaf3 ?_; (with_reducible refine (laws_eqIntS.calls k _ _ t854 _ _ t842 false _ ?side1 ?side2 ?side3 ?side4 A39.out).mono ?_); (case side1 => exact zaf32); (case side2 => exact (Kd.R_reads' HO856.out).2.1); (case side3 => exact zaf33); (case side4 => exact (Kd.R_reads' HO844.out).2.1); rintro e w' ⟨rfl, ⟨nd, rfl⟩⟩; refine ⟨_, rfl, ?_⟩))
  go_meet
  case rel => exact ⟨_, (true), zaf24, H', ⟨by first | omega | exact Nat.le_refl _⟩, ⟨zaf39⟩, ⟨zaf37⟩, ⟨zaf38⟩, ⟨zaf2⟩, ⟨zaf4⟩, ⟨zaf7⟩, ⟨zaf1⟩⟩
 case rest =>
  clear HC17
  try clear c1; try clear c2; try clear p2; try clear c3; try clear c4; try clear c5; try clear c5b0; try clear c8; try clear c15; try clear c17; try clear c18; try clear c20; try clear c21; try clear c31; try clear c32; try clear c34; try clear c35; try clear c40; try clear hcz21_0; try clear hcz21_1; try clear hcz21_2; try clear hcz28_0; try clear hcz28_1; try clear hcz28_2; try clear hcz33_0; try clear hcz33_1; try clear hcz33_2; try clear hcz9_0; try clear hcz9_1; try clear hcz9_2; try clear hfz21_0; try clear hfz21_1; try clear hfz21_2; try clear hfz28_0; try clear hfz28_1; try clear hfz28_2
  try clear hfz33_0; try clear hfz33_1; try clear hfz33_2; try clear hfz9_0; try clear hfz9_1; try clear hfz9_2
  obtain ⟨kq, x50_16, rfl, HA, HJ16, HO_8, HO_11, HO_852002, BK832, BK833, BK851, HB⟩ := hcut
  cases kq with
  | zero => exact absurd HA.out (by simp [laws_FnExactCountByDistance.j0])
  | succ kj16 =>
   have H := HA.out
   clear HA
   simp only [laws_FnExactCountByDistance.j0] at H
   by_cases c45 : x50_16 = true
   ·subst c45
    have H1 : (some false) = some r := by rw [if_pos rfl] at H; exact H
    clear H
    have H := H1
    clear H1
    obtain rfl := Option.some.inj H
    go_wp2
    go_ret
    exact ⟨zaf13, zaf1⟩
   replace c45 := Bool.eq_false_iff.mpr c45
   subst c45
   have H1 : ((laws_toBoard.f kj16 a0_0 a0_1 l0_2).bind fun bt859 => ((laws_eqBoard.f kj16 t846 t847 t848 bt859.1 bt859.2.1 bt859.2.2).bind fun t864 => (if t864 = true then ((laws_markBoard.f kj16 t846 t847 t848 1).bind fun bt865 => (if bt865.1 < 0 then (laws_FnExactCountByDistance.j1 kj16 a2 t842 t845 t854 true a0_0 a0_1 l0_2 a1_0 a1_1) else ((laws_eqIntS.f kj16 t854 t842).bind fun t867 => (if t867 = true then (laws_FnExactCountByDistance.j1 kj16 a2 t842 t845 t854 (t857 != t845) a0_0 a0_1 l0_2 a1_0 a1_1) else (laws_FnExactCountByDistance.j1 kj16 a2 t842 t845 t854 true a0_0 a0_1 l0_2 a1_0 a1_1))))) else (some false)))) = some r := by rw [if_neg (show ¬ (false = true) by decide)] at H; exact H
   clear H
   have H := H1
   clear H1
   replace H := Option.bind_eq_some_iff.mp H
   obtain ⟨⟨t859, t860, t861⟩, A460, H⟩ := H
   replace H : ((laws_eqBoard.f kj16 t846 t847 t848 t859 t860 t861).bind fun t864 => (if t864 = true then ((laws_markBoard.f kj16 t846 t847 t848 1).bind fun bt865 => (if bt865.1 < 0 then (laws_FnExactCountByDistance.j1 kj16 a2 t842 t845 t854 true a0_0 a0_1 l0_2 a1_0 a1_1) else ((laws_eqIntS.f kj16 t854 t842).bind fun t867 => (if t867 = true then (laws_FnExactCountByDistance.j1 kj16 a2 t842 t845 t854 (t857 != t845) a0_0 a0_1 l0_2 a1_0 a1_1) else (laws_FnExactCountByDistance.j1 kj16 a2 t842 t845 t854 true a0_0 a0_1 l0_2 a1_0 a1_1))))) else (some false))) = some r := H
   have A46 := Aside0.mk A460
   clear A460
   replace H := Option.bind_eq_some_iff.mp H
   obtain ⟨t864, A470, H⟩ := H
   replace H : (if t864 = true then ((laws_markBoard.f kj16 t846 t847 t848 1).bind fun bt865 => (if bt865.1 < 0 then (laws_FnExactCountByDistance.j1 kj16 a2 t842 t845 t854 true a0_0 a0_1 l0_2 a1_0 a1_1) else ((laws_eqIntS.f kj16 t854 t842).bind fun t867 => (if t867 = true then (laws_FnExactCountByDistance.j1 kj16 a2 t842 t845 t854 (t857 != t845) a0_0 a0_1 l0_2 a1_0 a1_1) else (laws_FnExactCountByDistance.j1 kj16 a2 t842 t845 t854 true a0_0 a0_1 l0_2 a1_0 a1_1))))) else (some false)) = some r := H
   have A47 := Aside0.mk A470
   clear A470
   by_cases c48 : t864 = true
   rotate_left
   ·replace c48 := Bool.eq_false_iff.mpr c48
    subst c48
    have H1 : (some false) = some r := by rw [if_neg (show ¬ (false = true) by decide)] at H; exact H
    clear H
    have H := H1
    clear H1
    obtain rfl := Option.some.inj H
    try go_wp2
    have n0_ := Aside0.mk (Kd.R_drew HO_8.out)
    have n1_ := Aside0.mk (Kd.R_drew HO_11.out)
    have n2_ := Aside0.mk (Kd.R_drew HO_852002.out)
    have n3_ := Aside0.mk (blk_drew BK832.out)
    have n4_ := Aside0.mk (blk_drew BK833.out)
    have n5_ := Aside0.mk (blk_drew BK851.out)
    have n6_ := Aside0.mk (below_drew1 HB.out)
    clear HO_8
    clear HO_11
    clear HO_852002
    clear BK832
    clear BK833
    clear BK851
    clear HB
    have HO_8 := n0_
    have HO_11 := n1_
    have HO_852002 := n2_
    have BK832 := n3_
    have BK833 := n4_
    have BK851 := n5_
    have HB := n6_
    clear n0_ n1_ n2_ n3_ n4_ n5_ n6_
    refine start_ (n := 5) (S := fun w' => w'.cell? ⟨gb851, 0, none⟩ = some (.int .i64 t846) ∧ w'.cell? ⟨gb851, 1, none⟩ = some (.int .i64 t847) ∧ w'.cell? ⟨gb851, 2, none⟩ = some (.slice Ao34 t848.length co34) ∧ w'.cell? ⟨gb832, 0, none⟩ = some (.int .i64 a0_0) ∧ w'.cell? ⟨gb832, 1, none⟩ = some (.int .i64 a0_1) ∧ w'.cell? ⟨gb832, 2, none⟩ = some (.slice A0_2 l0_2.length c0_2)) (ds := []) #[false, false, false, false, false] (by kernel_rfl) rfl rfl ⟨(blk_cell BK851.out 0).trans rfl, (blk_cell BK851.out 1).trans rfl, (blk_cell BK851.out 2).trans rfl, (blk_cell BK832.out 0).trans rfl, (blk_cell BK832.out 1).trans rfl, (blk_cell BK832.out 2).trans rfl⟩ (fun hHeld => ?_)
    generalize wc.drew = w96 at HO_8 HO_11 HO_852002 BK832 BK833 BK851 HB hHeld ⊢
    refine take_ (i := 0) (N := some 51) (v := ?_) (a' := ?_) #[true, false, false, false, false] rfl rfl (by kernel_rfl) (fun _ _ _ h => h) (Or.inl ⟨by rfl, ?_⟩) hHeld ?_ ?_
    rotate_left
    ·rintro w' ⟨s0, s1, s2, s3, s4, s5⟩
     go_simp
     with_reducible rfl
    rotate_left
    ·simp only [Act.put, List.setIfInBounds_toArray, List.set_cons_zero, List.set_cons_succ, i64_w, i32_w]
     rfl
    refine take_ (i := 1) (N := some 52) (v := ?_) (a' := ?_) #[true, true, false, false, false] rfl rfl (by kernel_rfl) (fun _ _ _ h => h) (Or.inl ⟨by rfl, ?_⟩) hHeld ?_ ?_
    rotate_left
    ·rintro w' ⟨s0, s1, s2, s3, s4, s5⟩
     go_simp
     with_reducible rfl
    rotate_left
    ·simp only [Act.put, List.setIfInBounds_toArray, List.set_cons_zero, List.set_cons_succ, i64_w, i32_w]
     rfl
    refine one_ (i := 2) (N := some 53) #[true, true, true, false, false] rfl rfl (by kernel_rfl) (by decide) (fun K hK => ?_)
    refine goes_ Try.func17 (by kernel_rfl) rfl #[.agg #[.int .i64 a0_0, .int .i64 a0_1, .slice A0_2 l0_2.length c0_2]] (by rfl) rfl rfl zaf3 ?_
    with_reducible refine (laws_toBoard.calls kj16 a0_0 a0_1 _ _ l0_2 t859 t860 t861 _ ?side1 ?side2 A46.out).mono ?_
    (case side1 => exact zaf12)
    (case side2 => exact HC0_2.out)
    rintro e w97 ⟨v862, rfl, ho0, hb⟩
    refine ⟨_, rfl, ?_⟩
    have n0_ := Aside0.mk (Kd.R_elder' zaf11 (Kd.R_base ho0) hb)
    have n1_ := Aside0.mk (Kd.R_elder' zaf10 (Kd.R_base ho0) hb)
    have n2_ := Aside0.mk (Kd.R_elder' zaf8 (Kd.R_base ho0) hb)
    have n3_ := Aside0.mk (Kd.R_lower (Kd.R_new' (Kd.R_new' (Kd.R_new' ho0 (Kd.R_lt zaf11)) (Kd.R_lt zaf10)) (Kd.R_lt zaf8)) (below_size zaf1))
    have n4_ := Aside0.mk (blk_below (g := gb832) (o := .cells #[.int .i64 a0_0, .int .i64 a0_1, .slice A0_2 l0_2.length c0_2] 24 (0, 0)) zaf2 hb)
    have n5_ := Aside0.mk (blk_below (g := gb833) (o := .cells #[.int .i64 a1_0, .int .i64 a1_1] 26 (0, 0)) zaf4 hb)
    have n6_ := Aside0.mk (blk_below (g := gb851) (o := .cells #[.int .i64 t846, .int .i64 t847, .slice Ao34 t848.length co34] 30 (0, 0)) zaf7 hb)
    have n7_ := Aside0.mk (below_step zaf1 hb)
    clear HO_8
    clear HO_11
    clear HO_852002
    clear BK832
    clear BK833
    clear BK851
    clear HB
    have HO_8 := n0_
    have HO_11 := n1_
    have HO_852002 := n2_
    have HO863 := n3_
    have BK832 := n4_
    have BK833 := n5_
    have BK851 := n6_
    have HB := n7_
    clear n0_ n1_ n2_ n3_ n4_ n5_ n6_ n7_
    (try clear hb)
    (try clear hb2)
    (try clear hk)
    (try clear hi)
    (try clear ho0)
    (try clear hna_)
    (try clear hnb_)
    obtain ⟨Ao98, co98, eo98⟩ := Kd.R_slice HO863.out
    (first | subst eo98 | (injection eo98 with f1_ f2_ f3_; have f4_ := f1_.symm; have f5_ := f3_.symm; clear f1_ f2_ f3_; subst f4_; subst f5_))
    refine hK.out _ _ ⟨(blk_cell BK851.out 0).trans rfl, (blk_cell BK851.out 1).trans rfl, (blk_cell BK851.out 2).trans rfl, (blk_cell BK832.out 0).trans rfl, (blk_cell BK832.out 1).trans rfl, (blk_cell BK832.out 2).trans rfl⟩ (fun hHeld => ?_)
    clear hK K
    refine norm_ (a' := ?_) ?_ ?_
    rotate_left
    ·show Act.put _ (some 53) _ = _
     simp only [Act.put, List.setIfInBounds_toArray, List.set_cons_zero, List.set_cons_succ, i64_w, i32_w]
     rfl
    refine one_ (i := 3) (N := some 54) #[true, true, true, true, false] rfl rfl (by kernel_rfl) (by decide) (fun K hK => ?_)
    refine goes_ Try.func22 (by kernel_rfl) rfl #[.agg #[.int .i64 t846, .int .i64 t847, .slice Ao34 t848.length co34], .agg #[.int .i64 t859, .int .i64 t860, .slice Ao98 t861.length co98]] (by rfl) rfl rfl zaf3 ?_
    with_reducible refine (laws_eqBoard.calls kj16 t846 t847 _ _ t848 t859 t860 _ _ t861 false _ ?side1 ?side2 ?side3 ?side4 A47.out).mono ?_
    (case side1 => exact zaf29)
    (case side2 => exact (Kd.R_reads' HO_852002.out).2.1)
    (case side3 => exact zaf31)
    (case side4 => exact (Kd.R_reads' HO863.out).2.1)
    rintro e w99 ⟨rfl, hb⟩
    refine ⟨_, rfl, ?_⟩
    have n0_ := Aside0.mk (Kd.R_below zaf11 hb)
    have n1_ := Aside0.mk (Kd.R_below zaf10 hb)
    have n2_ := Aside0.mk (Kd.R_below zaf8 hb)
    have n3_ := Aside0.mk (Kd.R_below (by (with_reducible repeat (first | apply Kd.R_alloc | apply Kd.R_drewN | apply Kd.R_drew)); exact HO863.out) hb)
    have n4_ := Aside0.mk (blk_below (g := gb832) (o := .cells #[.int .i64 a0_0, .int .i64 a0_1, .slice A0_2 l0_2.length c0_2] 24 (0, 0)) zaf2 hb)
    have n5_ := Aside0.mk (blk_below (g := gb833) (o := .cells #[.int .i64 a1_0, .int .i64 a1_1] 26 (0, 0)) zaf4 hb)
    have n6_ := Aside0.mk (blk_below (g := gb851) (o := .cells #[.int .i64 t846, .int .i64 t847, .slice Ao34 t848.length co34] 30 (0, 0)) zaf7 hb)
    have n7_ := Aside0.mk (below_step zaf1 hb)
    clear HO_8
    clear HO_11
    clear HO_852002
    clear HO863
    clear BK832
    clear BK833
    clear BK851
    clear HB
    have HO_8 := n0_
    have HO_11 := n1_
    have HO_852002 := n2_
    have HO863 := n3_
    have BK832 := n4_
    have BK833 := n5_
    have BK851 := n6_
    have HB := n7_
    clear n0_ n1_ n2_ n3_ n4_ n5_ n6_ n7_
    (try clear hb)
    (try clear hb2)
    (try clear hk)
    (try clear hi)
    (try clear hna_)
    (try clear hnb_)
    refine hK.out _ _ ⟨(blk_cell BK851.out 0).trans rfl, (blk_cell BK851.out 1).trans rfl, (blk_cell BK851.out 2).trans rfl, (blk_cell BK832.out 0).trans rfl, (blk_cell BK832.out 1).trans rfl, (blk_cell BK832.out 2).trans rfl⟩ (fun hHeld => ?_)
    clear hK K
    refine norm_ (a' := ?_) ?_ ?_
    rotate_left
    ·show Act.put _ (some 54) _ = _
     simp only [Act.put, List.setIfInBounds_toArray, List.set_cons_zero, List.set_cons_succ, i64_w, i32_w]
     rfl
    refine pure_ (i := 4) (N := some 55) (v := ?_) (a' := ?_) #[true, true, true, true, true] rfl rfl (by kernel_rfl) (fun _ _ _ h => h) (Or.inl ⟨by rfl, ?_⟩) ?_ ?_
    rotate_left
    ·intro w'
     go_simp
     with_reducible rfl
    rotate_left
    ·simp only [Act.put, List.setIfInBounds_toArray, List.set_cons_zero, List.set_cons_succ, i64_w, i32_w]
     rfl
    refine done_ (by kernel_rfl) ?_
    try go_wp2
    go_ret
    exact ⟨zaf13, zaf1⟩
   subst c48
   have H1 : ((laws_markBoard.f kj16 t846 t847 t848 1).bind fun bt865 => (if bt865.1 < 0 then (laws_FnExactCountByDistance.j1 kj16 a2 t842 t845 t854 true a0_0 a0_1 l0_2 a1_0 a1_1) else ((laws_eqIntS.f kj16 t854 t842).bind fun t867 => (if t867 = true then (laws_FnExactCountByDistance.j1 kj16 a2 t842 t845 t854 (t857 != t845) a0_0 a0_1 l0_2 a1_0 a1_1) else (laws_FnExactCountByDistance.j1 kj16 a2 t842 t845 t854 true a0_0 a0_1 l0_2 a1_0 a1_1))))) = some r := by rw [if_pos rfl] at H; exact H
   clear H
   have H := H1
   clear H1
   replace H := Option.bind_eq_some_iff.mp H
   obtain ⟨⟨t865, t866⟩, A490, H⟩ := H
   replace H : (if t865 < 0 then (laws_FnExactCountByDistance.j1 kj16 a2 t842 t845 t854 true a0_0 a0_1 l0_2 a1_0 a1_1) else ((laws_eqIntS.f kj16 t854 t842).bind fun t867 => (if t867 = true then (laws_FnExactCountByDistance.j1 kj16 a2 t842 t845 t854 (t857 != t845) a0_0 a0_1 l0_2 a1_0 a1_1) else (laws_FnExactCountByDistance.j1 kj16 a2 t842 t845 t854 true a0_0 a0_1 l0_2 a1_0 a1_1)))) = some r := H
   have A49 := Aside0.mk A490
   clear A490
   have HC50 := Aside0.mk H
   clear H
   try go_wp2
   have n0_ := Aside0.mk (Kd.R_drew HO_8.out)
   have n1_ := Aside0.mk (Kd.R_drew HO_11.out)
   have n2_ := Aside0.mk (Kd.R_drew HO_852002.out)
   have n3_ := Aside0.mk (blk_drew BK832.out)
   have n4_ := Aside0.mk (blk_drew BK833.out)
   have n5_ := Aside0.mk (blk_drew BK851.out)
   have n6_ := Aside0.mk (below_drew1 HB.out)
   clear HO_8
   clear HO_11
   clear HO_852002
   clear BK832
   clear BK833
   clear BK851
   clear HB
   have HO_8 := n0_
   have HO_11 := n1_
   have HO_852002 := n2_
   have BK832 := n3_
   have BK833 := n4_
   have BK851 := n5_
   have HB := n6_
   clear n0_ n1_ n2_ n3_ n4_ n5_ n6_
   refine start_ (n := 5) (S := fun w' => w'.cell? ⟨gb851, 0, none⟩ = some (.int .i64 t846) ∧ w'.cell? ⟨gb851, 1, none⟩ = some (.int .i64 t847) ∧ w'.cell? ⟨gb851, 2, none⟩ = some (.slice Ao34 t848.length co34) ∧ w'.cell? ⟨gb832, 0, none⟩ = some (.int .i64 a0_0) ∧ w'.cell? ⟨gb832, 1, none⟩ = some (.int .i64 a0_1) ∧ w'.cell? ⟨gb832, 2, none⟩ = some (.slice A0_2 l0_2.length c0_2)) (ds := []) #[false, false, false, false, false] (by kernel_rfl) rfl rfl ⟨(blk_cell BK851.out 0).trans rfl, (blk_cell BK851.out 1).trans rfl, (blk_cell BK851.out 2).trans rfl, (blk_cell BK832.out 0).trans rfl, (blk_cell BK832.out 1).trans rfl, (blk_cell BK832.out 2).trans rfl⟩ (fun hHeld => ?_)
   generalize wc.drew = w51 at HO_8 HO_11 HO_852002 BK832 BK833 BK851 HB hHeld ⊢
   refine take_ (i := 0) (N := some 51) (v := ?_) (a' := ?_) #[true, false, false, false, false] rfl rfl (by kernel_rfl) (fun _ _ _ h => h) (Or.inl ⟨by rfl, ?_⟩) hHeld ?_ ?_
   rotate_left
   ·rintro w' ⟨s0, s1, s2, s3, s4, s5⟩
    go_simp
    with_reducible rfl
   rotate_left
   ·simp only [Act.put, List.setIfInBounds_toArray, List.set_cons_zero, List.set_cons_succ, i64_w, i32_w]
    rfl
   refine take_ (i := 1) (N := some 52) (v := ?_) (a' := ?_) #[true, true, false, false, false] rfl rfl (by kernel_rfl) (fun _ _ _ h => h) (Or.inl ⟨by rfl, ?_⟩) hHeld ?_ ?_
   rotate_left
   ·rintro w' ⟨s0, s1, s2, s3, s4, s5⟩
    go_simp
    with_reducible rfl
   rotate_left
   ·simp only [Act.put, List.setIfInBounds_toArray, List.set_cons_zero, List.set_cons_succ, i64_w, i32_w]
    rfl
   refine one_ (i := 2) (N := some 53) #[true, true, true, false, false] rfl rfl (by kernel_rfl) (by decide) (fun K hK => ?_)
   refine goes_ Try.func17 (by kernel_rfl) rfl #[.agg #[.int .i64 a0_0, .int .i64 a0_1, .slice A0_2 l0_2.length c0_2]] (by rfl) rfl rfl zaf3 ?_
   with_reducible refine (laws_toBoard.calls kj16 a0_0 a0_1 _ _ l0_2 t859 t860 t861 _ ?side1 ?side2 A46.out).mono ?_
   (case side1 => exact zaf12)
   (case side2 => exact HC0_2.out)
   rintro e w52 ⟨v862, rfl, ho0, hb⟩
   refine ⟨_, rfl, ?_⟩
   have n0_ := Aside0.mk (Kd.R_elder' zaf11 (Kd.R_base ho0) hb)
   have n1_ := Aside0.mk (Kd.R_elder' zaf10 (Kd.R_base ho0) hb)
   have n2_ := Aside0.mk (Kd.R_elder' zaf8 (Kd.R_base ho0) hb)
   have n3_ := Aside0.mk (Kd.R_lower (Kd.R_new' (Kd.R_new' (Kd.R_new' ho0 (Kd.R_lt zaf11)) (Kd.R_lt zaf10)) (Kd.R_lt zaf8)) (below_size zaf1))
   have n4_ := Aside0.mk (blk_below (g := gb832) (o := .cells #[.int .i64 a0_0, .int .i64 a0_1, .slice A0_2 l0_2.length c0_2] 24 (0, 0)) zaf2 hb)
   have n5_ := Aside0.mk (blk_below (g := gb833) (o := .cells #[.int .i64 a1_0, .int .i64 a1_1] 26 (0, 0)) zaf4 hb)
   have n6_ := Aside0.mk (blk_below (g := gb851) (o := .cells #[.int .i64 t846, .int .i64 t847, .slice Ao34 t848.length co34] 30 (0, 0)) zaf7 hb)
   have n7_ := Aside0.mk (below_step zaf1 hb)
   clear HO_8
   clear HO_11
   clear HO_852002
   clear BK832
   clear BK833
   clear BK851
   clear HB
   have HO_8 := n0_
   have HO_11 := n1_
   have HO_852002 := n2_
   have HO863 := n3_
   have BK832 := n4_
   have BK833 := n5_
   have BK851 := n6_
   have HB := n7_
   clear n0_ n1_ n2_ n3_ n4_ n5_ n6_ n7_
   (try clear hb)
   (try clear hb2)
   (try clear hk)
   (try clear hi)
   (try clear ho0)
   (try clear hna_)
   (try clear hnb_)
   obtain ⟨Ao53, co53, eo53⟩ := Kd.R_slice HO863.out
   (first | subst eo53 | (injection eo53 with f1_ f2_ f3_; have f4_ := f1_.symm; have f5_ := f3_.symm; clear f1_ f2_ f3_; subst f4_; subst f5_))
   refine hK.out _ _ ⟨(blk_cell BK851.out 0).trans rfl, (blk_cell BK851.out 1).trans rfl, (blk_cell BK851.out 2).trans rfl, (blk_cell BK832.out 0).trans rfl, (blk_cell BK832.out 1).trans rfl, (blk_cell BK832.out 2).trans rfl⟩ (fun hHeld => ?_)
   clear hK K
   refine norm_ (a' := ?_) ?_ ?_
   rotate_left
   ·show Act.put _ (some 53) _ = _
    simp only [Act.put, List.setIfInBounds_toArray, List.set_cons_zero, List.set_cons_succ, i64_w, i32_w]
    rfl
   refine one_ (i := 3) (N := some 54) #[true, true, true, true, false] rfl rfl (by kernel_rfl) (by decide) (fun K hK => ?_)
   refine goes_ Try.func22 (by kernel_rfl) rfl #[.agg #[.int .i64 t846, .int .i64 t847, .slice Ao34 t848.length co34], .agg #[.int .i64 t859, .int .i64 t860, .slice Ao53 t861.length co53]] (by rfl) rfl rfl zaf3 ?_
   with_reducible refine (laws_eqBoard.calls kj16 t846 t847 _ _ t848 t859 t860 _ _ t861 true _ ?side1 ?side2 ?side3 ?side4 A47.out).mono ?_
   (case side1 => exact zaf29)
   (case side2 => exact (Kd.R_reads' HO_852002.out).2.1)
   (case side3 => exact zaf31)
   (case side4 => exact (Kd.R_reads' HO863.out).2.1)
   rintro e w54 ⟨rfl, hb⟩
   refine ⟨_, rfl, ?_⟩
   have n0_ := Aside0.mk (Kd.R_below zaf11 hb)
   have n1_ := Aside0.mk (Kd.R_below zaf10 hb)
   have n2_ := Aside0.mk (Kd.R_below zaf8 hb)
   have n3_ := Aside0.mk (Kd.R_below (by (with_reducible repeat (first | apply Kd.R_alloc | apply Kd.R_drewN | apply Kd.R_drew)); exact HO863.out) hb)
   have n4_ := Aside0.mk (blk_below (g := gb832) (o := .cells #[.int .i64 a0_0, .int .i64 a0_1, .slice A0_2 l0_2.length c0_2] 24 (0, 0)) zaf2 hb)
   have n5_ := Aside0.mk (blk_below (g := gb833) (o := .cells #[.int .i64 a1_0, .int .i64 a1_1] 26 (0, 0)) zaf4 hb)
   have n6_ := Aside0.mk (blk_below (g := gb851) (o := .cells #[.int .i64 t846, .int .i64 t847, .slice Ao34 t848.length co34] 30 (0, 0)) zaf7 hb)
   have n7_ := Aside0.mk (below_step zaf1 hb)
   clear HO_8
   clear HO_11
   clear HO_852002
   clear HO863
   clear BK832
   clear BK833
   clear BK851
   clear HB
   have HO_8 := n0_
   have HO_11 := n1_
   have HO_852002 := n2_
   have HO863 := n3_
   have BK832 := n4_
   have BK833 := n5_
   have BK851 := n6_
   have HB := n7_
   clear n0_ n1_ n2_ n3_ n4_ n5_ n6_ n7_
   (try clear hb)
   (try clear hb2)
   (try clear hk)
   (try clear hi)
   (try clear hna_)
   (try clear hnb_)
   refine hK.out _ _ ⟨(blk_cell BK851.out 0).trans rfl, (blk_cell BK851.out 1).trans rfl, (blk_cell BK851.out 2).trans rfl, (blk_cell BK832.out 0).trans rfl, (blk_cell BK832.out 1).trans rfl, (blk_cell BK832.out 2).trans rfl⟩ (fun hHeld => ?_)
   clear hK K
   refine norm_ (a' := ?_) ?_ ?_
   rotate_left
   ·show Act.put _ (some 54) _ = _
    simp only [Act.put, List.setIfInBounds_toArray, List.set_cons_zero, List.set_cons_succ, i64_w, i32_w]
    rfl
   refine pure_ (i := 4) (N := some 55) (v := ?_) (a' := ?_) #[true, true, true, true, true] rfl rfl (by kernel_rfl) (fun _ _ _ h => h) (Or.inl ⟨by rfl, ?_⟩) ?_ ?_
   rotate_left
   ·intro w'
    go_simp
    with_reducible rfl
   rotate_left
   ·simp only [Act.put, List.setIfInBounds_toArray, List.set_cons_zero, List.set_cons_succ, i64_w, i32_w]
    rfl
   refine done_ (by kernel_rfl) ?_
   have hnb55 := NB851_832.out
   have hnc55 := NB832_851.out
   have hnb56 := NB851_833.out
   have hnc56 := NB833_851.out
   have hcz57_0 : w54.cell? ⟨gb851, 0, none⟩ = some (.int .i64 t846) := (blk_cell BK851.out 0).trans rfl
   have hcz57_1 : w54.cell? ⟨gb851, 1, none⟩ = some (.int .i64 t847) := (blk_cell BK851.out 1).trans rfl
   have hcz57_2 : w54.cell? ⟨gb851, 2, none⟩ = some (.slice Ao34 t848.length co34) := (blk_cell BK851.out 2).trans rfl
   have hfz57_0 := blk_frozen BK851.out 0
   have hfz57_1 := blk_frozen BK851.out 1
   have hfz57_2 := blk_frozen BK851.out 2
   go_upto_region 14 with (first | ((with_reducible refine gate_callee (f := 23) rfl ?_); refine goesL_ (some 58) rfl rfl Try.func23 (by kernel_rfl) rfl #[.agg #[.int .i64 t846, .int .i64 t847, .slice Ao34 t848.length co34], .int .i64 1] rfl zaf3 ?_; (with_reducible refine (laws_markBoard.calls kj16 t846 t847 (fun k_ => some k_ = (.slice Ao34 t848.length co34 : Value).ownBlock) (.slice Ao34 t848.length co34) t848 1 t865 t866 w _ ?side1 ?side2 A49.out).mono ?_); (case side1 => exact zaf1); (case side2 => exact Kd.R_tight rfl HO_852002.out); rintro e w58 ⟨rfl, hy0, hb, hkp⟩; refine ⟨_, rfl, ?_⟩; have n0_ := Aside0.mk (Kd.R_mono (ok' := fun k_ => some k_ ≠ (v855 : Value).ownBlock ∧ some k_ ≠ (.slice Ao34 t848.length co34 : Value).ownBlock ∧ some k_ ≠ (.slice Ao53 t861.length co53 : Value).ownBlock) (Kd.R_keptB (HO_8.out) hkp (fun k_ hk_ hs_ => (hk_.1.2) hs_)) (fun k_ hk_ => ⟨hk_.1.1.1, hk_.1.1.2, hk_.1.2⟩)); have n1_ := Aside0.mk (Kd.R_mono (ok' := fun k_ => some k_ ≠ (v843 : Value).ownBlock ∧ some k_ ≠ (.slice Ao34 t848.length co34 : Value).ownBlock ∧ some k_ ≠ (.slice Ao53 t861.length co53 : Value).ownBlock) (Kd.R_keptB (HO_11.out) hkp (fun k_ hk_ hs_ => (hk_.1.2) hs_)) (fun k_ hk_ => ⟨hk_.1.1.1, hk_.1.1.2, hk_.1.2⟩)); have n2_ := Aside0.mk (Kd.R_reok rfl hy0 (fun k_ e_ => HO_852002.out.1 k_ e_)); have n3_ := Aside0.mk (blk_kept zaf2 hkp (fun hs_ => (fun e_ => (Kd.R_ne HO_852002.out BK832.out (by decide)) e_) hs_)); have n4_ := Aside0.mk (blk_kept zaf4 hkp (fun hs_ => (fun e_ => (Kd.R_ne HO_852002.out BK833.out (by decide)) e_) hs_)); have n5_ := Aside0.mk (blk_kept zaf7 hkp (fun hs_ => (fun e_ => (Kd.R_ne HO_852002.out BK851.out (by decide)) e_) hs_)); have n6_ := Aside0.mk (Kd.R_mono (ok' := fun k_ => some k_ ≠ (v843 : Value).ownBlock ∧ some k_ ≠ (v855 : Value).ownBlock ∧ some k_ ≠ (.slice Ao34 t848.length co34 : Value).ownBlock) (Kd.R_keptB (HO863.out) hkp (fun k_ hk_ hs_ => (hk_.2) hs_)) (fun k_ hk_ => ⟨hk_.1.1.1.2, hk_.1.1.2, hk_.1.2⟩)); have n7_ := Aside0.mk (hb); clear HO_8; clear HO_11; clear HO_852002; clear BK832; clear BK833; clear BK851; clear HO863; clear HB; have HO_8 := n0_; have HO_11 := n1_; have HO_852002 := n2_; have BK832 := n3_; have BK833 := n4_; have BK851 := n5_; have HO863 := n6_; have HB := n7_; clear n0_ n1_ n2_ n3_ n4_ n5_ n6_ n7_; (try clear hb); (try clear hkp); (try clear hy0)))
   (try simp only [Act.put, List.setIfInBounds_toArray, List.set_cons_zero, List.set_cons_succ])
   go_cut [71] (fun v71 wc => ∃ (kq : Nat) (x71_49 : Bool), v71 = .bool x71_49 ∧ Aside0 (laws_FnExactCountByDistance.j1 kq a2 t842 t845 t854 x71_49 a0_0 a0_1 l0_2 a1_0 a1_1 = some r) ∧ Aside0 (kq ≤ kj16) ∧ Aside0 (Kd.R (Kd.int .i64) 3 wc w.heap.size (fun k_ => some k_ ≠ (v855 : Value).ownBlock ∧ some k_ ≠ ((.slice Ao34 t848.length co34) : Value).ownBlock) v843 t842) ∧ Aside0 (Kd.R (Kd.int .i64) 3 wc w.heap.size (fun k_ => some k_ ≠ (v843 : Value).ownBlock ∧ some k_ ≠ ((.slice Ao34 t848.length co34) : Value).ownBlock) v855 t854) ∧ Aside0 (Kd.R (Kd.int .i64) 3 wc w.heap.size (fun k_ => some k_ ≠ (v843 : Value).ownBlock ∧ some k_ ≠ (v855 : Value).ownBlock) (.slice Ao34 t848.length co34) t866) ∧ Aside0 (wc.heap[gb832]? = some (.cells #[.int .i64 a0_0, .int .i64 a0_1, (.slice A0_2 l0_2.length c0_2)] 24 (0, 0))) ∧ Aside0 (wc.heap[gb833]? = some (.cells #[.int .i64 a1_0, .int .i64 a1_1] 26 (0, 0))) ∧ Aside0 (wc.heap[gb851]? = some (.cells #[.int .i64 t846, .int .i64 t847, (.slice Ao34 t848.length co34)] 30 (0, 0))) ∧ Aside0 (Below w.heap.size w wc))
   case first =>
    have H := HC50.out
    clear HC50
    by_cases c59 : t865 < 0
    ·rw [if_pos c59] at H
     have c59b0 : decide (t865 < 0) = true := decide_eq_true c59
     clear c59
     (first | rw [c59b0] | (simp only [i64_w, i32_w]; rw [c59b0]) | skip)
     have H' := Aside0.mk H
     clear H
     go_wp2
     go_meet
     case rel => exact ⟨_, (true), zaf24, H', ⟨by have := HJ16.out; first | omega | exact Nat.le_refl _⟩, ⟨zaf23⟩, ⟨zaf22⟩, ⟨zaf21⟩, ⟨zaf2⟩, ⟨zaf4⟩, ⟨zaf7⟩, ⟨zaf1⟩⟩
    rw [if_neg c59] at H
    have c59b0 : decide (t865 < 0) = false := decide_eq_false c59
    clear c59
    (first | rw [c59b0] | (simp only [i64_w, i32_w]; rw [c59b0]) | skip)
    replace H := Option.bind_eq_some_iff.mp H
    obtain ⟨t867, A600, H⟩ := H
    replace H : (if t867 = true then (laws_FnExactCountByDistance.j1 kj16 a2 t842 t845 t854 (t857 != t845) a0_0 a0_1 l0_2 a1_0 a1_1) else (laws_FnExactCountByDistance.j1 kj16 a2 t842 t845 t854 true a0_0 a0_1 l0_2 a1_0 a1_1)) = some r := H
    have A60 := Aside0.mk A600
    clear A600
    by_cases c61 : t867 = true
    ·subst c61
     have H1 : (laws_FnExactCountByDistance.j1 kj16 a2 t842 t845 t854 (t857 != t845) a0_0 a0_1 l0_2 a1_0 a1_1) = some r := by rw [if_pos rfl] at H; exact H
     clear H
     have H := H1
     clear H1
     have H' := Aside0.mk H
     clear H
     obtain ⟨Ao62, co62, eo62⟩ := Kd.R_slice HO_11.out
     subst eo62
     obtain ⟨Ao63, co63, eo63⟩ := Kd.R_slice HO_8.out
     subst eo63
     go_wp2_with (first | (go_at_call 21; (with_reducible refine (laws_eqIntS.calls kj16 _ _ t854 _ _ t842 true _ ?side1 ?side2 ?side3 ?side4 A60.out).mono ?_); (case side1 => exact zaf9); (case side2 => exact (Kd.R_reads' HO_11.out).2.1); (case side3 => exact zaf18); (case side4 => exact (Kd.R_reads' HO_8.out).2.1); rintro e w' ⟨rfl, ⟨nd, rfl⟩⟩))
     go_meet
     case rel => exact ⟨_, ((t857 != t845)), zaf24, H', ⟨by have := HJ16.out; first | omega | exact Nat.le_refl _⟩, ⟨zaf23⟩, ⟨zaf22⟩, ⟨zaf21⟩, ⟨zaf2⟩, ⟨zaf4⟩, ⟨zaf7⟩, ⟨zaf1⟩⟩
    replace c61 := Bool.eq_false_iff.mpr c61
    subst c61
    have H1 : (laws_FnExactCountByDistance.j1 kj16 a2 t842 t845 t854 true a0_0 a0_1 l0_2 a1_0 a1_1) = some r := by rw [if_neg (show ¬ (false = true) by decide)] at H; exact H
    clear H
    have H := H1
    clear H1
    have H' := Aside0.mk H
    clear H
    obtain ⟨Ao64, co64, eo64⟩ := Kd.R_slice HO_11.out
    subst eo64
    obtain ⟨Ao65, co65, eo65⟩ := Kd.R_slice HO_8.out
    subst eo65
    go_wp2_with (first | (go_at_call 21; (with_reducible refine (laws_eqIntS.calls kj16 _ _ t854 _ _ t842 false _ ?side1 ?side2 ?side3 ?side4 A60.out).mono ?_); (case side1 => exact zaf9); (case side2 => exact (Kd.R_reads' HO_11.out).2.1); (case side3 => exact zaf18); (case side4 => exact (Kd.R_reads' HO_8.out).2.1); rintro e w' ⟨rfl, ⟨nd, rfl⟩⟩))
    go_meet
    case rel => exact ⟨_, (true), zaf24, H', ⟨by have := HJ16.out; first | omega | exact Nat.le_refl _⟩, ⟨zaf23⟩, ⟨zaf22⟩, ⟨zaf21⟩, ⟨zaf2⟩, ⟨zaf4⟩, ⟨zaf7⟩, ⟨zaf1⟩⟩
   case rest =>
    clear HC50
    try clear c1; try clear c2; try clear p2; try clear c3; try clear c4; try clear c5; try clear c5b0; try clear c6; try clear c8; try clear c15; try clear c17; try clear c18; try clear c20; try clear c21; try clear c22; try clear c23; try clear c31; try clear c32; try clear c34; try clear c35; try clear c40; try clear c45; try clear c48; try clear c55; try clear c56; try clear c59; try clear c59b0; try clear c61; try clear hcz21_0; try clear hcz21_1; try clear hcz21_2; try clear hcz28_0; try clear hcz28_1; try clear hcz28_2; try clear hcz33_0; try clear hcz33_1; try clear hcz33_2; try clear hcz57_0
    try clear hcz57_1; try clear hcz57_2; try clear hcz9_0; try clear hcz9_1; try clear hcz9_2; try clear hfz21_0; try clear hfz21_1; try clear hfz21_2; try clear hfz28_0; try clear hfz28_1; try clear hfz28_2; try clear hfz33_0; try clear hfz33_1; try clear hfz33_2; try clear hfz57_0; try clear hfz57_1; try clear hfz57_2; try clear hfz9_0; try clear hfz9_1; try clear hfz9_2; try clear p2
    obtain ⟨kq, x71_49, rfl, HA, HJ49, HO_8, HO_11, HO_852002, BK832, BK833, BK851, HB⟩ := hcut
    have hl852002_49 := (Kd.R_reads' HO_852002.out).1
    rw [hl852002_49] at HO_852002
    (try simp only [hl852002_49])
    (try simp only [hl852002_49] at BK832)
    (try simp only [hl852002_49] at BK833)
    (try simp only [hl852002_49] at BK851)
    (try simp only [hl852002_49] at HO_8)
    (try simp only [hl852002_49] at HO_11)
    cases kq with
    | zero => exact absurd HA.out (by simp [laws_FnExactCountByDistance.j1])
    | succ kj49 =>
     have H := HA.out
     clear HA
     simp only [laws_FnExactCountByDistance.j1] at H
     by_cases c66 : x71_49 = true
     ·subst c66
      have H1 : (some false) = some r := by rw [if_pos rfl] at H; exact H
      clear H
      have H := H1
      clear H1
      obtain rfl := Option.some.inj H
      go_wp2
      go_ret
      exact ⟨zaf13, zaf1⟩
     replace c66 := Bool.eq_false_iff.mpr c66
     subst c66
     have H1 : ((laws_markIntS.f kj49 t854 1).bind fun bt868 => ((laws_heldIntS.f kj49 bt868.2 1).bind fun t870 => (if t870 < 0 then (some false) else (if t870 = bt868.1 then ((laws_toBoard.f kj49 a0_0 a0_1 l0_2).bind fun bt871 => ((laws_toLeaper.f a1_0 a1_1).bind fun bt876 => ((impl_CountByDistance.f kj49 bt871.1 bt871.2.1 bt871.2.2 bt876.1 bt876.2 a2).bind fun bt878 => ((laws_eqIntS.f kj49 bt878.1 t842).bind fun t882 => (if t882 = true then (laws_FnExactCountByDistance.j2 kj49 bt868.2 bt868.1 (bt878.2 != t845)) else (laws_FnExactCountByDistance.j2 kj49 bt868.2 bt868.1 true)))))) else (some false))))) = some r := by rw [if_neg (show ¬ (false = true) by decide)] at H; exact H
     clear H
     have H := H1
     clear H1
     replace H := Option.bind_eq_some_iff.mp H
     obtain ⟨⟨t868, t869⟩, A670, H⟩ := H
     replace H : ((laws_heldIntS.f kj49 t869 1).bind fun t870 => (if t870 < 0 then (some false) else (if t870 = t868 then ((laws_toBoard.f kj49 a0_0 a0_1 l0_2).bind fun bt871 => ((laws_toLeaper.f a1_0 a1_1).bind fun bt876 => ((impl_CountByDistance.f kj49 bt871.1 bt871.2.1 bt871.2.2 bt876.1 bt876.2 a2).bind fun bt878 => ((laws_eqIntS.f kj49 bt878.1 t842).bind fun t882 => (if t882 = true then (laws_FnExactCountByDistance.j2 kj49 t869 t868 (bt878.2 != t845)) else (laws_FnExactCountByDistance.j2 kj49 t869 t868 true)))))) else (some false)))) = some r := H
     have A67 := Aside0.mk A670
     clear A670
     replace H := Option.bind_eq_some_iff.mp H
     obtain ⟨t870, A680, H⟩ := H
     replace H : (if t870 < 0 then (some false) else (if t870 = t868 then ((laws_toBoard.f kj49 a0_0 a0_1 l0_2).bind fun bt871 => ((laws_toLeaper.f a1_0 a1_1).bind fun bt876 => ((impl_CountByDistance.f kj49 bt871.1 bt871.2.1 bt871.2.2 bt876.1 bt876.2 a2).bind fun bt878 => ((laws_eqIntS.f kj49 bt878.1 t842).bind fun t882 => (if t882 = true then (laws_FnExactCountByDistance.j2 kj49 t869 t868 (bt878.2 != t845)) else (laws_FnExactCountByDistance.j2 kj49 t869 t868 true)))))) else (some false))) = some r := H
     have A68 := Aside0.mk A680
     clear A680
     by_cases c69 : t870 < 0
     ·rw [if_pos c69] at H
      have c69b0 : decide (t870 < 0) = true := decide_eq_true c69
      clear c69
      obtain rfl := Option.some.inj H
      obtain ⟨Ao70, co70, eo70⟩ := Kd.R_slice HO_11.out
      subst eo70
      go_wp2_with (first | ((with_reducible refine gate_callee (f := 24) rfl ?_); refine goesL_ (some 74) rfl rfl Try.func24 (by kernel_rfl) rfl #[.slice Ao70 t854.length co70, .int .i64 1] rfl zaf3 ?_; (with_reducible refine (laws_markIntS.calls kj49 (fun k_ => some k_ = (.slice Ao70 t854.length co70 : Value).ownBlock) (.slice Ao70 t854.length co70) t854 1 t868 t869 w _ ?side1 ?side2 A67.out).mono ?_); (case side1 => exact zaf1); (case side2 => exact Kd.R_tight rfl HO_11.out); rintro e w71 ⟨rfl, hy0, hb, hkp⟩; refine ⟨_, rfl, ?_⟩; have n0_ := Aside0.mk (Kd.R_mono (ok' := fun k_ => some k_ ≠ (.slice Ao70 t854.length co70 : Value).ownBlock ∧ some k_ ≠ (.slice Ao34 t866.length co34 : Value).ownBlock) (Kd.R_keptB (HO_8.out) hkp (fun k_ hk_ hs_ => (hk_.1) hs_)) (fun k_ hk_ => ⟨hk_.1.1, hk_.1.2⟩)); have n1_ := Aside0.mk (Kd.R_reok rfl hy0 (fun k_ e_ => HO_11.out.1 k_ e_)); have n2_ := Aside0.mk (Kd.R_mono (ok' := fun k_ => some k_ ≠ (v843 : Value).ownBlock ∧ some k_ ≠ (.slice Ao70 t854.length co70 : Value).ownBlock) (Kd.R_keptB (HO_852002.out) hkp (fun k_ hk_ hs_ => (hk_.2) hs_)) (fun k_ hk_ => ⟨hk_.1.1, hk_.1.2⟩)); have n3_ := Aside0.mk (blk_kept zaf2 hkp (fun hs_ => (fun e_ => (Kd.R_ne HO_11.out BK832.out (by decide)) e_) hs_)); have n4_ := Aside0.mk (blk_kept zaf4 hkp (fun hs_ => (fun e_ => (Kd.R_ne HO_11.out BK833.out (by decide)) e_) hs_)); have n5_ := Aside0.mk (blk_kept zaf7 hkp (fun hs_ => (fun e_ => (Kd.R_ne HO_11.out BK851.out (by decide)) e_) hs_)); have n6_ := Aside0.mk (hb); clear HO_8; clear HO_11; clear HO_852002; clear BK832; clear BK833; clear BK851; clear HB; have HO_8 := n0_; have HO_11 := n1_; have HO_852002 := n2_; have BK832 := n3_; have BK833 := n4_; have BK851 := n5_; have HB := n6_; clear n0_ n1_ n2_ n3_ n4_ n5_ n6_; (try clear hb); (try clear hkp); (try clear hy0)) | ((with_reducible refine gate_callee (f := 25) rfl ?_); refine goesL_ (some 77) rfl rfl Try.func25 (by kernel_rfl) rfl #[.slice Ao70 t869.length co70, .int .i64 1] rfl zaf19 ?_; (with_reducible refine (laws_heldIntS.calls kj49 _ _ t869 1 t870 _ ?side1 ?side2 A68.out).mono ?_); (case side1 => exact zaf9); (case side2 => exact zaf26); rintro e w' ⟨rfl, ⟨nd, rfl⟩⟩; refine ⟨_, rfl, ?_⟩))
      go_ret
      exact ⟨zaf13, zaf1⟩
     rw [if_neg c69] at H
     have c69b0 : decide (t870 < 0) = false := decide_eq_false c69
     clear c69
     by_cases c72 : t870 = t868
     rotate_left
     ·rw [if_neg c72] at H
      have c72b0 : (t870 == t868) = false := beq_eq_false_iff_ne.mpr c72
      have c72b1 : (t870 != t868) = true := bne_iff_ne.mpr c72
      obtain rfl := Option.some.inj H
      obtain ⟨Ao94, co94, eo94⟩ := Kd.R_slice HO_11.out
      subst eo94
      go_wp2_with (first | ((with_reducible refine gate_callee (f := 24) rfl ?_); refine goesL_ (some 74) rfl rfl Try.func24 (by kernel_rfl) rfl #[.slice Ao94 t854.length co94, .int .i64 1] rfl zaf3 ?_; (with_reducible refine (laws_markIntS.calls kj49 (fun k_ => some k_ = (.slice Ao94 t854.length co94 : Value).ownBlock) (.slice Ao94 t854.length co94) t854 1 t868 t869 w _ ?side1 ?side2 A67.out).mono ?_); (case side1 => exact zaf1); (case side2 => exact Kd.R_tight rfl HO_11.out); rintro e w95 ⟨rfl, hy0, hb, hkp⟩; refine ⟨_, rfl, ?_⟩; have n0_ := Aside0.mk (Kd.R_mono (ok' := fun k_ => some k_ ≠ (.slice Ao94 t854.length co94 : Value).ownBlock ∧ some k_ ≠ (.slice Ao34 t866.length co34 : Value).ownBlock) (Kd.R_keptB (HO_8.out) hkp (fun k_ hk_ hs_ => (hk_.1) hs_)) (fun k_ hk_ => ⟨hk_.1.1, hk_.1.2⟩)); have n1_ := Aside0.mk (Kd.R_reok rfl hy0 (fun k_ e_ => HO_11.out.1 k_ e_)); have n2_ := Aside0.mk (Kd.R_mono (ok' := fun k_ => some k_ ≠ (v843 : Value).ownBlock ∧ some k_ ≠ (.slice Ao94 t854.length co94 : Value).ownBlock) (Kd.R_keptB (HO_852002.out) hkp (fun k_ hk_ hs_ => (hk_.2) hs_)) (fun k_ hk_ => ⟨hk_.1.1, hk_.1.2⟩)); have n3_ := Aside0.mk (blk_kept zaf2 hkp (fun hs_ => (fun e_ => (Kd.R_ne HO_11.out BK832.out (by decide)) e_) hs_)); have n4_ := Aside0.mk (blk_kept zaf4 hkp (fun hs_ => (fun e_ => (Kd.R_ne HO_11.out BK833.out (by decide)) e_) hs_)); have n5_ := Aside0.mk (blk_kept zaf7 hkp (fun hs_ => (fun e_ => (Kd.R_ne HO_11.out BK851.out (by decide)) e_) hs_)); have n6_ := Aside0.mk (hb); clear HO_8; clear HO_11; clear HO_852002; clear BK832; clear BK833; clear BK851; clear HB; have HO_8 := n0_; have HO_11 := n1_; have HO_852002 := n2_; have BK832 := n3_; have BK833 := n4_; have BK851 := n5_; have HB := n6_; clear n0_ n1_ n2_ n3_ n4_ n5_ n6_; (try clear hb); (try clear hkp); (try clear hy0)) | ((with_reducible refine gate_callee (f := 25) rfl ?_); refine goesL_ (some 77) rfl rfl Try.func25 (by kernel_rfl) rfl #[.slice Ao94 t869.length co94, .int .i64 1] rfl zaf19 ?_; (with_reducible refine (laws_heldIntS.calls kj49 _ _ t869 1 t870 _ ?side1 ?side2 A68.out).mono ?_); (case side1 => exact zaf9); (case side2 => exact zaf26); rintro e w' ⟨rfl, ⟨nd, rfl⟩⟩; refine ⟨_, rfl, ?_⟩))
      go_ret
      exact ⟨zaf13, zaf1⟩
     rw [if_pos c72] at H
     have c72b0 : (t870 == t868) = true := beq_iff_eq.mpr c72
     have c72b1 : (t870 != t868) = false := bne_eq_false_iff_eq.mpr c72
     clear c72
     replace H := Option.bind_eq_some_iff.mp H
     obtain ⟨⟨t871, t872, t873⟩, A730, H⟩ := H
     replace H : ((laws_toLeaper.f a1_0 a1_1).bind fun bt876 => ((impl_CountByDistance.f kj49 t871 t872 t873 bt876.1 bt876.2 a2).bind fun bt878 => ((laws_eqIntS.f kj49 bt878.1 t842).bind fun t882 => (if t882 = true then (laws_FnExactCountByDistance.j2 kj49 t869 t868 (bt878.2 != t845)) else (laws_FnExactCountByDistance.j2 kj49 t869 t868 true))))) = some r := H
     have A73 := Aside0.mk A730
     clear A730
     replace H := Option.bind_eq_some_iff.mp H
     obtain ⟨⟨t876, t877⟩, A740, H⟩ := H
     replace H : ((impl_CountByDistance.f kj49 t871 t872 t873 t876 t877 a2).bind fun bt878 => ((laws_eqIntS.f kj49 bt878.1 t842).bind fun t882 => (if t882 = true then (laws_FnExactCountByDistance.j2 kj49 t869 t868 (bt878.2 != t845)) else (laws_FnExactCountByDistance.j2 kj49 t869 t868 true)))) = some r := H
     have A74 := Aside0.mk A740
     clear A740
     replace H := Option.bind_eq_some_iff.mp H
     obtain ⟨⟨t878, t881⟩, A750, H⟩ := H
     replace H : ((laws_eqIntS.f kj49 t878 t842).bind fun t882 => (if t882 = true then (laws_FnExactCountByDistance.j2 kj49 t869 t868 (t881 != t845)) else (laws_FnExactCountByDistance.j2 kj49 t869 t868 true))) = some r := H
     have A75 := Aside0.mk A750
     clear A750
     have HC76 := Aside0.mk H
     clear H
     obtain ⟨Ao77, co77, eo77⟩ := Kd.R_slice HO_11.out
     subst eo77
     try go_wp2_with (first | ((with_reducible refine gate_callee (f := 24) rfl ?_); refine goesL_ (some 74) rfl rfl Try.func24 (by kernel_rfl) rfl #[.slice Ao77 t854.length co77, .int .i64 1] rfl zaf3 ?_; (with_reducible refine (laws_markIntS.calls kj49 (fun k_ => some k_ = (.slice Ao77 t854.length co77 : Value).ownBlock) (.slice Ao77 t854.length co77) t854 1 t868 t869 w _ ?side1 ?side2 A67.out).mono ?_); (case side1 => exact zaf1); (case side2 => exact Kd.R_tight rfl HO_11.out); rintro e w78 ⟨rfl, hy0, hb, hkp⟩; refine ⟨_, rfl, ?_⟩; have n0_ := Aside0.mk (Kd.R_mono (ok' := fun k_ => some k_ ≠ (.slice Ao77 t854.length co77 : Value).ownBlock ∧ some k_ ≠ (.slice Ao34 t866.length co34 : Value).ownBlock) (Kd.R_keptB (HO_8.out) hkp (fun k_ hk_ hs_ => (hk_.1) hs_)) (fun k_ hk_ => ⟨hk_.1.1, hk_.1.2⟩)); have n1_ := Aside0.mk (Kd.R_reok rfl hy0 (fun k_ e_ => HO_11.out.1 k_ e_)); have n2_ := Aside0.mk (Kd.R_mono (ok' := fun k_ => some k_ ≠ (v843 : Value).ownBlock ∧ some k_ ≠ (.slice Ao77 t854.length co77 : Value).ownBlock) (Kd.R_keptB (HO_852002.out) hkp (fun k_ hk_ hs_ => (hk_.2) hs_)) (fun k_ hk_ => ⟨hk_.1.1, hk_.1.2⟩)); have n3_ := Aside0.mk (blk_kept zaf2 hkp (fun hs_ => (fun e_ => (Kd.R_ne HO_11.out BK832.out (by decide)) e_) hs_)); have n4_ := Aside0.mk (blk_kept zaf4 hkp (fun hs_ => (fun e_ => (Kd.R_ne HO_11.out BK833.out (by decide)) e_) hs_)); have n5_ := Aside0.mk (blk_kept zaf7 hkp (fun hs_ => (fun e_ => (Kd.R_ne HO_11.out BK851.out (by decide)) e_) hs_)); have n6_ := Aside0.mk (hb); clear HO_8; clear HO_11; clear HO_852002; clear BK832; clear BK833; clear BK851; clear HB; have HO_8 := n0_; have HO_11 := n1_; have HO_852002 := n2_; have BK832 := n3_; have BK833 := n4_; have BK851 := n5_; have HB := n6_; clear n0_ n1_ n2_ n3_ n4_ n5_ n6_; (try clear hb); (try clear hkp); (try clear hy0)) | ((with_reducible refine gate_callee (f := 25) rfl ?_); refine goesL_ (some 77) rfl rfl Try.func25 (by kernel_rfl) rfl #[.slice Ao77 t869.length co77, .int .i64 1] rfl zaf19 ?_; (with_reducible refine (laws_heldIntS.calls kj49 _ _ t869 1 t870 _ ?side1 ?side2 A68.out).mono ?_); (case side1 => exact zaf9); (case side2 => exact zaf26); rintro e w' ⟨rfl, ⟨nd, rfl⟩⟩; refine ⟨_, rfl, ?_⟩))
     (try (rw [drewN_self w78]; generalize hq_ : World.drewN w78 _ = w78; have n0_ : Aside0 (Kd.R (Kd.int .i64) 3 w78 w.heap.size (fun k_ => (some k_ ≠ (v843 : Value).ownBlock ∧ some k_ ≠ (.slice Ao34 t866.length co34 : Value).ownBlock)) (.slice Ao77 t854.length co77) t869) := ⟨by rw [← hq_]; exact zaf10⟩; have n1_ : Aside0 (Kd.R (Kd.int .i64) 3 w78 w.heap.size (fun k_ => (some k_ ≠ (.slice Ao77 t854.length co77 : Value).ownBlock ∧ some k_ ≠ (.slice Ao34 t866.length co34 : Value).ownBlock)) v843 t842) := ⟨by rw [← hq_]; exact zaf11⟩; have n2_ : Aside0 (Kd.R (Kd.int .i64) 3 w78 w.heap.size (fun k_ => (some k_ ≠ (v843 : Value).ownBlock ∧ some k_ ≠ (.slice Ao77 t854.length co77 : Value).ownBlock)) (.slice Ao34 t866.length co34) t866) := ⟨by rw [← hq_]; exact zaf8⟩; have n3_ : Aside0 (w78.heap[gb832]? = some (.cells #[.int .i64 a0_0, .int .i64 a0_1, .slice A0_2 l0_2.length c0_2] 24 (0, 0))) := ⟨by rw [← hq_]; exact zaf2⟩; have n4_ : Aside0 (w78.heap[gb833]? = some (.cells #[.int .i64 a1_0, .int .i64 a1_1] 26 (0, 0))) := ⟨by rw [← hq_]; exact zaf4⟩; have n5_ : Aside0 (w78.heap[gb851]? = some (.cells #[.int .i64 t846, .int .i64 t847, .slice Ao34 t866.length co34] 30 (0, 0))) := ⟨by rw [← hq_]; exact zaf7⟩; have n6_ : Aside0 (Below w.heap.size w w78) := ⟨by rw [← hq_]; exact zaf1⟩; clear HO_11 HO_8 HO_852002 BK832 BK833 BK851 HB hq_; have HO_11 := n0_; have HO_8 := n1_; have HO_852002 := n2_; have BK832 := n3_; have BK833 := n4_; have BK851 := n5_; have HB := n6_; clear n0_ n1_ n2_ n3_ n4_ n5_ n6_))
     have n0_ := Aside0.mk (Kd.R_drew HO_8.out)
     have n1_ := Aside0.mk (Kd.R_drew HO_11.out)
     have n2_ := Aside0.mk (Kd.R_drew HO_852002.out)
     have n3_ := Aside0.mk (blk_drew BK832.out)
     have n4_ := Aside0.mk (blk_drew BK833.out)
     have n5_ := Aside0.mk (blk_drew BK851.out)
     have n6_ := Aside0.mk (below_drew1 HB.out)
     clear HO_8
     clear HO_11
     clear HO_852002
     clear BK832
     clear BK833
     clear BK851
     clear HB
     have HO_8 := n0_
     have HO_11 := n1_
     have HO_852002 := n2_
     have BK832 := n3_
     have BK833 := n4_
     have BK851 := n5_
     have HB := n6_
     clear n0_ n1_ n2_ n3_ n4_ n5_ n6_
     refine start_ (n := 11) (S := fun w' => w'.cell? ⟨gb832, 0, none⟩ = some (.int .i64 a0_0) ∧ w'.cell? ⟨gb832, 1, none⟩ = some (.int .i64 a0_1) ∧ w'.cell? ⟨gb832, 2, none⟩ = some (.slice A0_2 l0_2.length c0_2) ∧ w'.cell? ⟨gb833, 0, none⟩ = some (.int .i64 a1_0) ∧ w'.cell? ⟨gb833, 1, none⟩ = some (.int .i64 a1_1)) (ds := []) #[false, false, false, false, false, false, false, false, false, false, false] (by kernel_rfl) rfl rfl ⟨(blk_cell BK832.out 0).trans rfl, (blk_cell BK832.out 1).trans rfl, (blk_cell BK832.out 2).trans rfl, (blk_cell BK833.out 0).trans rfl, (blk_cell BK833.out 1).trans rfl⟩ (fun hHeld => ?_); refine with_tabW laws_FnExactCountByDistance.tab24 laws_FnExactCountByDistance.bits24 (fun HT_ HW_ => ?_)
     generalize w78.drew = w79 at HO_8 HO_11 HO_852002 BK832 BK833 BK851 HB hHeld ⊢
     refine pure_ (i := 4) (N := some 88) (v := ?_) (a' := ?_) #[false, false, false, false, true, false, false, false, false, false, false] rfl rfl (any_of HT_.out (by kernel_rfl)) (fun _ _ _ h => h) (Or.inl ⟨by rfl, ?_⟩) ?_ ?_
     rotate_left
     ·intro w'
      go_simp
      with_reducible rfl
     rotate_left
     ·simp only [Act.put, List.setIfInBounds_toArray, List.set_cons_zero, List.set_cons_succ, i64_w, i32_w]
      rfl
     refine take_ (i := 0) (N := some 84) (v := ?_) (a' := ?_) #[true, false, false, false, true, false, false, false, false, false, false] rfl rfl (take_ofW HT_.out HW_.out (by kernel_rfl)) (fun _ _ _ h => h) (Or.inl ⟨by rfl, ?_⟩) hHeld ?_ ?_
     rotate_left
     ·rintro w' ⟨s0, s1, s2, s3, s4⟩
      go_simp
      with_reducible rfl
     rotate_left
     ·simp only [Act.put, List.setIfInBounds_toArray, List.set_cons_zero, List.set_cons_succ, i64_w, i32_w]
      rfl
     refine take_ (i := 2) (N := some 86) (v := ?_) (a' := ?_) #[true, false, true, false, true, false, false, false, false, false, false] rfl rfl (take_ofW HT_.out HW_.out (by kernel_rfl)) (fun _ _ _ h => h) (Or.inl ⟨by rfl, ?_⟩) hHeld ?_ ?_
     rotate_left
     ·rintro w' ⟨s0, s1, s2, s3, s4⟩
      go_simp
      with_reducible rfl
     rotate_left
     ·simp only [Act.put, List.setIfInBounds_toArray, List.set_cons_zero, List.set_cons_succ, i64_w, i32_w]
      rfl
     refine one_ (i := 1) (N := some 85) #[true, true, true, false, true, false, false, false, false, false, false] rfl rfl (one_of HT_.out (by kernel_rfl)) (by decide) (fun K hK => ?_)
     refine goes_ Try.func17 (by kernel_rfl) rfl #[.agg #[.int .i64 a0_0, .int .i64 a0_1, .slice A0_2 l0_2.length c0_2]] (by rfl) rfl rfl zaf3 ?_
     with_reducible refine (laws_toBoard.calls kj49 a0_0 a0_1 _ _ l0_2 t871 t872 t873 _ ?side1 ?side2 A73.out).mono ?_
     (case side1 => exact zaf12)
     (case side2 => exact HC0_2.out)
     rintro e w80 ⟨v874, rfl, ho0, hb⟩
     refine ⟨_, rfl, ?_⟩
     have n0_ := Aside0.mk (Kd.R_elder' zaf11 (Kd.R_base ho0) hb)
     have n1_ := Aside0.mk (Kd.R_elder' zaf10 (Kd.R_base ho0) hb)
     have n2_ := Aside0.mk (Kd.R_elder' zaf8 (Kd.R_base ho0) hb)
     have n3_ := Aside0.mk (Kd.R_lower (Kd.R_new' (Kd.R_new' (Kd.R_new' ho0 (Kd.R_lt zaf11)) (Kd.R_lt zaf10)) (Kd.R_lt zaf8)) (below_size zaf1))
     have n4_ := Aside0.mk (blk_below (g := gb832) (o := .cells #[.int .i64 a0_0, .int .i64 a0_1, .slice A0_2 l0_2.length c0_2] 24 (0, 0)) zaf2 hb)
     have n5_ := Aside0.mk (blk_below (g := gb833) (o := .cells #[.int .i64 a1_0, .int .i64 a1_1] 26 (0, 0)) zaf4 hb)
     have n6_ := Aside0.mk (blk_below (g := gb851) (o := .cells #[.int .i64 t846, .int .i64 t847, .slice Ao34 t866.length co34] 30 (0, 0)) zaf7 hb)
     have n7_ := Aside0.mk (below_step zaf1 hb)
     clear HO_8
     clear HO_11
     clear HO_852002
     clear BK832
     clear BK833
     clear BK851
     clear HB
     have HO_8 := n0_
     have HO_11 := n1_
     have HO_852002 := n2_
     have HO875 := n3_
     have BK832 := n4_
     have BK833 := n5_
     have BK851 := n6_
     have HB := n7_
     clear n0_ n1_ n2_ n3_ n4_ n5_ n6_ n7_
     (try clear hb)
     (try clear hb2)
     (try clear hk)
     (try clear hi)
     (try clear ho0)
     (try clear hna_)
     (try clear hnb_)
     refine hK.out _ _ ⟨(blk_cell BK832.out 0).trans rfl, (blk_cell BK832.out 1).trans rfl, (blk_cell BK832.out 2).trans rfl, (blk_cell BK833.out 0).trans rfl, (blk_cell BK833.out 1).trans rfl⟩ (fun hHeld => ?_)
     clear hK K
     refine norm_ (a' := ?_) ?_ ?_
     rotate_left
     ·show Act.put _ (some 85) _ = _
      simp only [Act.put, List.setIfInBounds_toArray, List.set_cons_zero, List.set_cons_succ, i64_w, i32_w]
      rfl
     refine one_ (i := 3) (N := some 87) #[true, true, true, true, true, false, false, false, false, false, false] rfl rfl (one_of HT_.out (by kernel_rfl)) (by decide) (fun K hK => ?_)
     refine goes_ Try.func18 (by kernel_rfl) rfl #[.agg #[.int .i64 a1_0, .int .i64 a1_1]] (by rfl) rfl rfl zaf3 ?_
     with_reducible refine (laws_toLeaper.calls a1_0 a1_1 t876 t877 _ A74.out).mono ?_
     rintro e w81 ⟨rfl, hb⟩
     refine ⟨_, rfl, ?_⟩
     have n0_ := Aside0.mk (Kd.R_below zaf11 hb)
     have n1_ := Aside0.mk (Kd.R_below zaf10 hb)
     have n2_ := Aside0.mk (Kd.R_below zaf8 hb)
     have n3_ := Aside0.mk (Kd.R_below zaf25 hb)
     have n4_ := Aside0.mk (blk_below (g := gb832) (o := .cells #[.int .i64 a0_0, .int .i64 a0_1, .slice A0_2 l0_2.length c0_2] 24 (0, 0)) zaf2 hb)
     have n5_ := Aside0.mk (blk_below (g := gb833) (o := .cells #[.int .i64 a1_0, .int .i64 a1_1] 26 (0, 0)) zaf4 hb)
     have n6_ := Aside0.mk (blk_below (g := gb851) (o := .cells #[.int .i64 t846, .int .i64 t847, .slice Ao34 t866.length co34] 30 (0, 0)) zaf7 hb)
     have n7_ := Aside0.mk (below_step zaf1 hb)
     clear HO_8
     clear HO_11
     clear HO_852002
     clear HO875
     clear BK832
     clear BK833
     clear BK851
     clear HB
     have HO_8 := n0_
     have HO_11 := n1_
     have HO_852002 := n2_
     have HO875 := n3_
     have BK832 := n4_
     have BK833 := n5_
     have BK851 := n6_
     have HB := n7_
     clear n0_ n1_ n2_ n3_ n4_ n5_ n6_ n7_
     (try clear hb)
     (try clear hb2)
     (try clear hk)
     (try clear hi)
     (try clear hna_)
     (try clear hnb_)
     obtain ⟨Ao82, co82, eo82⟩ := Kd.R_slice HO875.out
     (first | subst eo82 | (injection eo82 with f1_ f2_ f3_; have f4_ := f1_.symm; have f5_ := f3_.symm; clear f1_ f2_ f3_; subst f4_; subst f5_))
     refine hK.out _ _ ⟨(blk_cell BK832.out 0).trans rfl, (blk_cell BK832.out 1).trans rfl, (blk_cell BK832.out 2).trans rfl, (blk_cell BK833.out 0).trans rfl, (blk_cell BK833.out 1).trans rfl⟩ (fun hHeld => ?_)
     clear hK K
     refine norm_ (a' := ?_) ?_ ?_
     rotate_left
     ·show Act.put _ (some 87) _ = _
      simp only [Act.put, List.setIfInBounds_toArray, List.set_cons_zero, List.set_cons_succ, i64_w, i32_w]
      rfl
     refine one_ (i := 5) (N := some 89) #[true, true, true, true, true, true, false, false, false, false, false] rfl rfl (one_of HT_.out (by kernel_rfl)) (by decide) (fun K hK => ?_)
     refine goes_ Try.func35 (by kernel_rfl) rfl #[.agg #[.int .i64 t871, .int .i64 t872, .slice Ao82 t873.length co82], .agg #[.int .i64 t876, .int .i64 t877], .int .i64 a2] (by rfl) rfl rfl zaf3 ?_
     with_reducible refine (impl_CountByDistance.calls kj49 t871 t872 _ _ t873 t876 t877 a2 t878 t881 _ ?side1 ?side2 A75.out).mono ?_
     (case side1 => repeat (first | exact (Kd.R_reads' HO875.out).2.2 | (with_reducible refine Kd.C_alloc ?_ _) | (with_reducible refine Kd.C_drewN ?_ _) | (with_reducible refine Kd.C_drew ?_)))
     (case side2 => exact (Kd.R_reads' HO875.out).2.1)
     rintro e w83 ⟨v879, rfl, ho0, hb⟩
     refine ⟨_, rfl, ?_⟩
     have n0_ := Aside0.mk (Kd.R_elder' zaf11 (Kd.R_base ho0) hb)
     have n1_ := Aside0.mk (Kd.R_elder' zaf10 (Kd.R_base ho0) hb)
     have n2_ := Aside0.mk (Kd.R_elder' zaf8 (Kd.R_base ho0) hb)
     have n3_ := Aside0.mk (Kd.R_elder' zaf25 (Kd.R_base ho0) hb)
     have n4_ := Aside0.mk (Kd.R_lower (Kd.R_new' (Kd.R_new' (Kd.R_new' (Kd.R_new' ho0 (Kd.R_lt zaf11)) (Kd.R_lt zaf10)) (Kd.R_lt zaf8)) (Kd.R_lt zaf25)) (below_size zaf1))
     have n5_ := Aside0.mk (blk_below (g := gb832) (o := .cells #[.int .i64 a0_0, .int .i64 a0_1, .slice A0_2 l0_2.length c0_2] 24 (0, 0)) zaf2 hb)
     have n6_ := Aside0.mk (blk_below (g := gb833) (o := .cells #[.int .i64 a1_0, .int .i64 a1_1] 26 (0, 0)) zaf4 hb)
     have n7_ := Aside0.mk (blk_below (g := gb851) (o := .cells #[.int .i64 t846, .int .i64 t847, .slice Ao34 t866.length co34] 30 (0, 0)) zaf7 hb)
     have n8_ := Aside0.mk (below_step zaf1 hb)
     clear HO_8
     clear HO_11
     clear HO_852002
     clear HO875
     clear BK832
     clear BK833
     clear BK851
     clear HB
     have HO_8 := n0_
     have HO_11 := n1_
     have HO_852002 := n2_
     have HO875 := n3_
     have HO880 := n4_
     have BK832 := n5_
     have BK833 := n6_
     have BK851 := n7_
     have HB := n8_
     clear n0_ n1_ n2_ n3_ n4_ n5_ n6_ n7_ n8_
     (try clear hb)
     (try clear hb2)
     (try clear hk)
     (try clear hi)
     (try clear ho0)
     (try clear hna_)
     (try clear hnb_)
     refine hK.out _ _ ⟨(blk_cell BK832.out 0).trans rfl, (blk_cell BK832.out 1).trans rfl, (blk_cell BK832.out 2).trans rfl, (blk_cell BK833.out 0).trans rfl, (blk_cell BK833.out 1).trans rfl⟩ (fun hHeld => ?_)
     clear hK K
     refine norm_ (a' := ?_) ?_ ?_
     rotate_left
     ·show Act.put _ (some 89) _ = _
      simp only [Act.put, List.setIfInBounds_toArray, List.set_cons_zero, List.set_cons_succ, i64_w, i32_w]
      rfl
     refine pure_ (i := 6) (N := some 83) (v := ?_) (a' := ?_) #[true, true, true, true, true, true, true, false, false, false, false] rfl rfl (any_of HT_.out (by kernel_rfl)) (fun _ _ _ h => h) (Or.inl ⟨by rfl, ?_⟩) ?_ ?_
     rotate_left
     ·intro w'
      go_simp
      with_reducible rfl
     rotate_left
     ·simp only [Act.put, List.setIfInBounds_toArray, List.set_cons_zero, List.set_cons_succ, i64_w, i32_w]
      rfl
     refine pure_ (i := 7) (N := some 90) (v := ?_) (a' := ?_) #[true, true, true, true, true, true, true, true, false, false, false] rfl rfl (any_of HT_.out (by kernel_rfl)) (fun _ _ _ h => h) (Or.inl ⟨by rfl, ?_⟩) ?_ ?_
     rotate_left
     ·intro w'
      go_simp
      with_reducible rfl
     rotate_left
     ·simp only [Act.put, List.setIfInBounds_toArray, List.set_cons_zero, List.set_cons_succ, i64_w, i32_w]
      rfl
     refine pure_ (i := 8) (N := some 91) (v := ?_) (a' := ?_) #[true, true, true, true, true, true, true, true, true, false, false] rfl rfl (any_of HT_.out (by kernel_rfl)) (fun _ _ _ h => h) (Or.inl ⟨by rfl, ?_⟩) ?_ ?_
     rotate_left
     ·intro w'
      go_simp
      with_reducible rfl
     rotate_left
     ·simp only [Act.put, List.setIfInBounds_toArray, List.set_cons_zero, List.set_cons_succ, i64_w, i32_w]
      rfl
     refine pure_ (i := 9) (N := some 16) (v := ?_) (a' := ?_) #[true, true, true, true, true, true, true, true, true, true, false] rfl rfl (any_of HT_.out (by kernel_rfl)) (fun _ _ _ h => h) (Or.inl ⟨by rfl, ?_⟩) ?_ ?_
     rotate_left
     ·intro w'
      go_simp
      with_reducible rfl
     rotate_left
     ·simp only [Act.put, List.setIfInBounds_toArray, List.set_cons_zero, List.set_cons_succ, i64_w, i32_w]
      rfl
     refine pure_ (i := 10) (N := some 17) (v := ?_) (a' := ?_) #[true, true, true, true, true, true, true, true, true, true, true] rfl rfl (any_of HT_.out (by kernel_rfl)) (fun _ _ _ h => h) (Or.inl ⟨by rfl, ?_⟩) ?_ ?_
     rotate_left
     ·intro w'
      go_simp
      with_reducible rfl
     rotate_left
     ·simp only [Act.put, List.setIfInBounds_toArray, List.set_cons_zero, List.set_cons_succ, i64_w, i32_w]
      rfl
     refine done_ (done_of HT_.out (by kernel_rfl)) ?_
     go_upto_region 25 with (fail)
     go_cut [100] (fun v100 wc => ∃ (kq : Nat) (x100_75 : Bool), v100 = .bool x100_75 ∧ Aside0 (laws_FnExactCountByDistance.j2 kq t869 t868 x100_75 = some r) ∧ Aside0 (kq ≤ kj49) ∧ Aside0 (Kd.R (Kd.int .i64) 3 wc w.heap.size (fun k_ => some k_ ≠ ((.slice Ao34 t866.length co34) : Value).ownBlock) (.slice Ao77 t854.length co77) t869) ∧ Aside0 (Kd.R (Kd.int .i64) 3 wc w.heap.size (fun k_ => some k_ ≠ ((.slice Ao77 t854.length co77) : Value).ownBlock) (.slice Ao34 t866.length co34) t866) ∧ Aside0 (wc.heap[gb832]? = some (.cells #[.int .i64 a0_0, .int .i64 a0_1, (.slice A0_2 l0_2.length c0_2)] 24 (0, 0))) ∧ Aside0 (wc.heap[gb833]? = some (.cells #[.int .i64 a1_0, .int .i64 a1_1] 26 (0, 0))) ∧ Aside0 (wc.heap[gb851]? = some (.cells #[.int .i64 t846, .int .i64 t847, (.slice Ao34 t866.length co34)] 30 (0, 0))) ∧ Aside0 (Below w.heap.size w wc))
     case first =>
      have H := HC76.out
      clear HC76
      replace H := Option.bind_eq_some_iff.mp H
      obtain ⟨t882, A840, H⟩ := H
      replace H : (if t882 = true then (laws_FnExactCountByDistance.j2 kj49 t869 t868 (t881 != t845)) else (laws_FnExactCountByDistance.j2 kj49 t869 t868 true)) = some r := H
      have A84 := Aside0.mk A840
      clear A840
      by_cases c85 : t882 = true
      ·subst c85
       have H1 : (laws_FnExactCountByDistance.j2 kj49 t869 t868 (t881 != t845)) = some r := by rw [if_pos rfl] at H; exact H
       clear H
       have H := H1
       clear H1
       have H' := Aside0.mk H
       clear H
       obtain ⟨Ao86, co86, eo86⟩ := Kd.R_slice HO880.out
       subst eo86
       obtain ⟨Ao87, co87, eo87⟩ := Kd.R_slice HO_8.out
       subst eo87
       go_wp2_with (first | ((with_reducible refine gate_callee (f := 21) rfl ?_); refine goesL_ (some 94) rfl rfl Try.func21 (by kernel_rfl) rfl #[.slice Ao86 t878.length co86, .slice Ao87 t842.length co87] rfl zaf3 ?_; (with_reducible refine (laws_eqIntS.calls kj49 _ _ t878 _ _ t842 true _ ?side1 ?side2 ?side3 ?side4 A84.out).mono ?_); (case side1 => exact zaf30); (case side2 => exact (Kd.R_reads' HO880.out).2.1); (case side3 => exact zaf18); (case side4 => exact (Kd.R_reads' HO_8.out).2.1); rintro e w' ⟨rfl, ⟨nd, rfl⟩⟩; refine ⟨_, rfl, ?_⟩))
       go_meet
       case rel => exact ⟨_, ((t881 != t845)), zaf24, H', ⟨by have := HJ16.out; have := HJ49.out; first | omega | exact Nat.le_refl _⟩, ⟨zaf28⟩, ⟨zaf27⟩, ⟨zaf36⟩, ⟨zaf35⟩, ⟨zaf34⟩, ⟨zaf1⟩⟩
      replace c85 := Bool.eq_false_iff.mpr c85
      subst c85
      have H1 : (laws_FnExactCountByDistance.j2 kj49 t869 t868 true) = some r := by rw [if_neg (show ¬ (false = true) by decide)] at H; exact H
      clear H
      have H := H1
      clear H1
      have H' := Aside0.mk H
      clear H
      obtain ⟨Ao88, co88, eo88⟩ := Kd.R_slice HO880.out
      subst eo88
      obtain ⟨Ao89, co89, eo89⟩ := Kd.R_slice HO_8.out
      subst eo89
      go_wp2_with (first | ((with_reducible refine gate_callee (f := 21) rfl ?_); refine goesL_ (some 94) rfl rfl Try.func21 (by kernel_rfl) rfl #[.slice Ao88 t878.length co88, .slice Ao89 t842.length co89] rfl zaf3 ?_; (with_reducible refine (laws_eqIntS.calls kj49 _ _ t878 _ _ t842 false _ ?side1 ?side2 ?side3 ?side4 A84.out).mono ?_); (case side1 => exact zaf30); (case side2 => exact (Kd.R_reads' HO880.out).2.1); (case side3 => exact zaf18); (case side4 => exact (Kd.R_reads' HO_8.out).2.1); rintro e w' ⟨rfl, ⟨nd, rfl⟩⟩; refine ⟨_, rfl, ?_⟩))
      go_meet
      case rel => exact ⟨_, (true), zaf24, H', ⟨by have := HJ16.out; have := HJ49.out; first | omega | exact Nat.le_refl _⟩, ⟨zaf28⟩, ⟨zaf27⟩, ⟨zaf36⟩, ⟨zaf35⟩, ⟨zaf34⟩, ⟨zaf1⟩⟩
     case rest =>
      clear HC76
      try clear c1; try clear c2; try clear p2; try clear c3; try clear c4; try clear c5; try clear c5b0; try clear c6; try clear c7; try clear c8; try clear c15; try clear c17; try clear c18; try clear c20; try clear c21; try clear c22; try clear c23; try clear c24; try clear c25; try clear c31; try clear c32; try clear c34; try clear c35; try clear c40; try clear c45; try clear c48; try clear c55; try clear c56; try clear c59; try clear c59b0; try clear c61; try clear c66; try clear c69; try clear c69b0; try clear c72; try clear c72b0; try clear c72b1; try clear c85; try clear hcz21_0; try clear hcz21_1
      try clear hcz21_2; try clear hcz28_0; try clear hcz28_1; try clear hcz28_2; try clear hcz33_0; try clear hcz33_1; try clear hcz33_2; try clear hcz57_0; try clear hcz57_1; try clear hcz57_2; try clear hcz9_0; try clear hcz9_1; try clear hcz9_2; try clear hfz21_0; try clear hfz21_1; try clear hfz21_2; try clear hfz28_0; try clear hfz28_1; try clear hfz28_2; try clear hfz33_0; try clear hfz33_1; try clear hfz33_2; try clear hfz57_0; try clear hfz57_1; try clear hfz57_2; try clear hfz9_0; try clear hfz9_1; try clear hfz9_2; try clear p2
      obtain ⟨kq, x100_75, rfl, HA, HJ75, HO_11, HO_852002, BK832, BK833, BK851, HB⟩ := hcut
      have hl11_75 := (Kd.R_reads' HO_11.out).1
      rw [hl11_75] at HO_11
      (try simp only [hl11_75])
      (try simp only [hl11_75] at BK832)
      (try simp only [hl11_75] at BK833)
      (try simp only [hl11_75] at BK851)
      (try simp only [hl11_75] at HO_852002)
      cases kq with
      | zero => exact absurd HA.out (by simp [laws_FnExactCountByDistance.j2])
      | succ kj75 =>
       have H := HA.out
       clear HA
       simp only [laws_FnExactCountByDistance.j2] at H
       by_cases c90 : x100_75 = true
       ·subst c90
        have H1 : (some false) = some r := by rw [if_pos rfl] at H; exact H
        clear H
        have H := H1
        clear H1
        obtain rfl := Option.some.inj H
        go_wp2
        go_ret
        exact ⟨zaf13, zaf1⟩
       replace c90 := Bool.eq_false_iff.mpr c90
       subst c90
       have H1 : ((laws_heldIntS.f kj75 t869 1).bind fun t883 => (if t883 < 0 then (some false) else (if t883 = t868 then (some true) else (some false)))) = some r := by rw [if_neg (show ¬ (false = true) by decide)] at H; exact H
       clear H
       have H := H1
       clear H1
       replace H := Option.bind_eq_some_iff.mp H
       obtain ⟨t883, A910, H⟩ := H
       replace H : (if t883 < 0 then (some false) else (if t883 = t868 then (some true) else (some false))) = some r := H
       have A91 := Aside0.mk A910
       clear A910
       by_cases c92 : t883 < 0
       ·rw [if_pos c92] at H
        have c92b0 : decide (t883 < 0) = true := decide_eq_true c92
        clear c92
        obtain rfl := Option.some.inj H
        go_wp2_with (first | ((with_reducible refine gate_callee (f := 25) rfl ?_); refine goesL_ (some 103) rfl rfl Try.func25 (by kernel_rfl) rfl #[.slice Ao77 t869.length co77, .int .i64 1] rfl zaf3 ?_; (with_reducible refine (laws_heldIntS.calls kj75 _ _ t869 1 t883 _ ?side1 ?side2 A91.out).mono ?_); (case side1 => exact zaf9); (case side2 => exact (Kd.R_reads' HO_11.out).2.1); rintro e w' ⟨rfl, ⟨nd, rfl⟩⟩; refine ⟨_, rfl, ?_⟩))
        go_ret
        exact ⟨zaf13, zaf1⟩
       rw [if_neg c92] at H
       have c92b0 : decide (t883 < 0) = false := decide_eq_false c92
       clear c92
       by_cases c93 : t883 = t868
       rotate_left
       ·rw [if_neg c93] at H
        have c93b0 : (t883 == t868) = false := beq_eq_false_iff_ne.mpr c93
        have c93b1 : (t883 != t868) = true := bne_iff_ne.mpr c93
        obtain rfl := Option.some.inj H
        go_wp2_with (first | ((with_reducible refine gate_callee (f := 25) rfl ?_); refine goesL_ (some 103) rfl rfl Try.func25 (by kernel_rfl) rfl #[.slice Ao77 t869.length co77, .int .i64 1] rfl zaf3 ?_; (with_reducible refine (laws_heldIntS.calls kj75 _ _ t869 1 t883 _ ?side1 ?side2 A91.out).mono ?_); (case side1 => exact zaf9); (case side2 => exact (Kd.R_reads' HO_11.out).2.1); rintro e w' ⟨rfl, ⟨nd, rfl⟩⟩; refine ⟨_, rfl, ?_⟩))
        go_ret
        exact ⟨zaf13, zaf1⟩
       rw [if_pos c93] at H
       have c93b0 : (t883 == t868) = true := beq_iff_eq.mpr c93
       have c93b1 : (t883 != t868) = false := bne_eq_false_iff_eq.mpr c93
       clear c93
       obtain rfl := Option.some.inj H
       go_wp2_with (first | ((with_reducible refine gate_callee (f := 25) rfl ?_); refine goesL_ (some 103) rfl rfl Try.func25 (by kernel_rfl) rfl #[.slice Ao77 t869.length co77, .int .i64 1] rfl zaf3 ?_; (with_reducible refine (laws_heldIntS.calls kj75 _ _ t869 1 t883 _ ?side1 ?side2 A91.out).mono ?_); (case side1 => exact zaf9); (case side2 => exact (Kd.R_reads' HO_11.out).2.1); rintro e w' ⟨rfl, ⟨nd, rfl⟩⟩; refine ⟨_, rfl, ?_⟩))
       go_ret
       exact ⟨zaf13, zaf1⟩

end Go.Proofs.Ytjeongckkfkehaa.Q

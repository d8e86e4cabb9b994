/- Written by a program of this session: functions of the translation as plain Lean functions, each with a proof that the call does what the plain function says; the conditions stand in each theorem. -/
import Derived.Test.YthoklbeenjppbaaQ0
import Derived.Test.YthoklbeenjppbaaQ1
import Derived.Test.YthoklbeenjppbaaQ2
import Derived.Test.YthoklbeenjppbaaQ5
import Derived.Test.YthoklbeenjppbaaQ34
namespace Go.Proofs.Ythoklbeenjppbaa.Q
open Go.RowKit Go.Proofs.YthoklbeenjppbaaW.PrintWords Go.Proofs.YthoklbeenjppbaaW.PrintLast Go.Proofs.YthoklbeenjppbaaW.PrintMore
attribute [local go_sem] max2_int min2_int max_two min_two max_three min_three max_four min_four   -- for this text's walks alone
set_option linter.unusedVariables false
set_option linter.unusedSimpArgs false

theorem zaj1 {p : Prop} (h : p := by repeat (first | (with_reducible first | exact HB.out | apply below_alloc | apply pw_below_drewN | apply below_drew1 | refine below_set ?_ GE838.out | refine below_set ?_ GE839.out | refine below_set ?_ GE856.out) | exact HB.out)) : p := h
theorem zaj2 {p : Prop} (h : p := by (with_reducible repeat (first | refine blk_drewN ?_ _ | refine blk_drew ?_ | refine blk_alloc ?_ _)); exact BK838.out) : p := h
theorem zaj4 {p : Prop} (h : p := by repeat (first | (with_reducible first | exact HB.out | apply below_alloc | apply pw_below_drewN | apply below_drew1 | refine below_set ?_ GE838.out | refine below_set ?_ GE839.out) | exact HB.out)) : p := h
theorem zaj5 {p : Prop} (h : p := by (with_reducible repeat (first | refine blk_drewN ?_ _ | refine blk_drew ?_ | refine blk_alloc ?_ _)); exact BK839.out) : p := h
theorem zaj6 {p : Prop} (h : p := by (try simp only [List.map_toArray, List.map_cons, List.map_nil]); first | done | rfl | (simp only [List.length_drop, List.length_take]; rfl)) : p := h
theorem zaj7 {p : Prop} (h : p := by (with_reducible repeat (first | refine blk_drewN ?_ _ | refine blk_drew ?_ | refine blk_alloc ?_ _)); exact BK856.out) : p := h
theorem zaj8 {p : Prop} (h : p := by repeat (first | exact (Kd.C_below HR0_2.out HB.out) | (with_reducible refine Kd.C_alloc ?_ _) | (with_reducible refine Kd.C_drewN ?_ _) | (with_reducible refine Kd.C_drew ?_))) : p := h
theorem zaj9 {p : Prop} (h : p := by repeat (first | (with_reducible first | exact HB.out | apply below_alloc | apply pw_below_drewN | apply below_drew1 | refine below_set ?_ GE838.out) | exact HB.out)) : p := h
theorem zaj10 {p : Prop} (h : p := by repeat (first | (with_reducible first | exact HB.out | apply below_alloc | apply pw_below_drewN | apply below_drew1) | exact HB.out)) : p := h
theorem zaj11 {p : Prop} (h : p := by (with_reducible repeat (first | apply Kd.R_alloc | apply Kd.R_drewN | apply Kd.R_drew)); exact HO845.out) : p := h
theorem zaj12 {p : Prop} (h : p := by (with_reducible repeat (first | apply Kd.R_alloc | apply Kd.R_drewN | apply Kd.R_drew)); exact HO_857002.out) : p := h
theorem zaj13 {p : Prop} (h : p := by first | rfl | (simp [errW_none, errW_some] <;> rfl) | (simp [*, errW_none, errW_some] <;> rfl)) : p := h
theorem zaj14 {p : Prop} (h : p := by (with_reducible repeat (first | apply Kd.R_alloc | apply Kd.R_drewN | apply Kd.R_drew)); exact Kd.R_mono HO855.out (fun _ hk => trivial)) : p := h
theorem zaj15 {p : Prop} (h : p := by (with_reducible repeat (first | apply Kd.R_alloc | apply Kd.R_drewN | apply Kd.R_drew)); exact HO855.out) : p := h
theorem zaj16 {p : Prop} (h : p := by repeat (first | exact (Kd.R_reads' HO_857002.out).2.2 | (with_reducible refine Kd.C_alloc ?_ _) | (with_reducible refine Kd.C_drewN ?_ _) | (with_reducible refine Kd.C_drew ?_))) : p := h
theorem zaj17 {p : Prop} (h : p := by repeat (first | exact (Kd.R_reads' HO866.out).2.2 | (with_reducible refine Kd.C_alloc ?_ _) | (with_reducible refine Kd.C_drewN ?_ _) | (with_reducible refine Kd.C_drew ?_))) : p := h
theorem zaj18 {p : Prop} (h : p := by rw [hg]; exact Nat.ne_of_lt (blk_lt (g := gb838) (o := .cells #[.int .i64 a0_0, .int .i64 a0_1, .slice A0_2 l0_2.length c0_2] 24 (0, 0)) zaj2)) : p := h
theorem zaj19 {p : Prop} (h : p := by rw [hg]; exact Nat.ne_of_gt (blk_lt (g := gb838) (o := .cells #[.int .i64 a0_0, .int .i64 a0_1, .slice A0_2 l0_2.length c0_2] 24 (0, 0)) zaj2)) : p := h
/-! ### laws_FnExactFarthestFrom: function 9 -/
def laws_FnExactFarthestFrom.j0 : Nat → Bool → Int → Int → List Int → Int → Int → List Int → Option (Bool)
 | 0, _, _, _, _, _, _, _ => none
 | k + 1, x53, x839000, x839001, x839002, x857000, x857001, x857002 => if x53 = true then (some false) else ((laws_toBoard.f k x839000 x839001 x839002).bind fun bt862 => ((laws_eqBoard.f k x857000 x857001 x857002 bt862.1 bt862.2.1 bt862.2.2).bind fun t867 => (if t867 = true then (some true) else (some false))))
def laws_FnExactFarthestFrom.f (k : Nat) (a0_0 : Int) (a0_1 : Int) (l0_2 : List Int) (a1_0 : Int) (a1_1 : Int) (a2 : Int) : Option (Bool) := (laws_szBoard.f a0_0 a0_1 l0_2 1048576).bind fun t840 => (if t840 < 0 then (some true) else ((laws_toBoard.f k a0_0 a0_1 l0_2).bind fun bt841 => ((laws_toLeaper.f a1_0 a1_1).bind fun bt846 => ((spec_FarthestFrom.f k bt841.1 bt841.2.1 bt841.2.2 bt846.1 bt846.2 a2).bind fun bt848 => ((laws_toBoard.f k a0_0 a0_1 l0_2).bind fun bt851 => ((laws_toLeaper.f a1_0 a1_1).bind fun bt857 => ((impl_FarthestFrom.f k bt851.1 bt851.2.1 bt851.2.2 bt857.1 bt857.2 a2).bind fun bt859 => (if bt859.1 = bt848.1 then (if bt859.2.1 = bt848.2.1 then (laws_FnExactFarthestFrom.j0 k (bt859.2.2 != bt848.2.2) a0_0 a0_1 l0_2 bt851.1 bt851.2.1 bt851.2.2) else (laws_FnExactFarthestFrom.j0 k true a0_0 a0_1 l0_2 bt851.1 bt851.2.1 bt851.2.2)) else (laws_FnExactFarthestFrom.j0 k true a0_0 a0_1 l0_2 bt851.1 bt851.2.1 bt851.2.2)))))))))
def laws_FnExactFarthestFrom.T5 : Bool × List (List Nat × List Nat) := (true, [([], []), ([0], [0]), ([], []), ([2, 1], [2]), ([], []), ([1, 3, 4, 3], [1, 3, 4]), ([5], [5]), ([6], [6]), ([6], [6]), ([6], [6]), ([7, 5, 0, 1, 2, 3, 4, 5, 6, 7], [7]), ([8, 10, 0, 1, 2, 3, 4, 5, 6, 7, 8, 10], [8]), ([9, 11, 0, 1, 2, 3, 4, 5, 6, 7, 8, 9, 10, 11], [9])])
def laws_FnExactFarthestFrom.B5 : List Nat := [0, 1, 0, 7, 0, 31, 63, 127, 127, 127, 255, 1535, 4095]
theorem laws_FnExactFarthestFrom.tab5 : rtab .any (opsOf Try.f9 5) = laws_FnExactFarthestFrom.T5 := by kernel_rfl
theorem laws_FnExactFarthestFrom.bits5 : waitsOk laws_FnExactFarthestFrom.T5.2 laws_FnExactFarthestFrom.B5 = true := by kernel_rfl
def laws_FnExactFarthestFrom.T7 : Bool × List (List Nat × List Nat) := (true, [([], []), ([], []), ([1], [1]), ([], []), ([0, 2, 3, 2], [0, 2, 3]), ([4], [4]), ([5], [5]), ([5], [5]), ([5], [5]), ([6, 4, 0, 1, 2, 3, 4, 5, 6], [6]), ([7, 9, 0, 1, 2, 3, 4, 5, 6, 7, 9], [7]), ([8, 10, 0, 1, 2, 3, 4, 5, 6, 7, 8, 9, 10], [8])])
def laws_FnExactFarthestFrom.B7 : List Nat := [0, 0, 2, 0, 15, 31, 63, 63, 63, 127, 767, 2047]
theorem laws_FnExactFarthestFrom.tab7 : rtab .any (opsOf Try.f9 7) = laws_FnExactFarthestFrom.T7 := by kernel_rfl
theorem laws_FnExactFarthestFrom.bits7 : waitsOk laws_FnExactFarthestFrom.T7.2 laws_FnExactFarthestFrom.B7 = true := by kernel_rfl
set_option maxHeartbeats 8000000 in
set_option maxRecDepth 100000 in
theorem laws_FnExactFarthestFrom.calls (k : Nat) (a0_0 : Int) (a0_1 : Int) (A0_2 : Option Addr) (c0_2 : Nat) (l0_2 : List Int) (a1_0 : Int) (a1_1 : Int) (a2 : Int) (r : Bool) (w : World) (hr0_2 : Kd.C (Kd.int .i64) w A0_2 l0_2.length l0_2) (hc0_2 : l0_2.length ≤ c0_2) (h : laws_FnExactFarthestFrom.f k a0_0 a0_1 l0_2 a1_0 a1_1 a2 = some r) :
  Calls Try.prog 9 #[.agg #[.int .i64 a0_0, .int .i64 a0_1, .slice A0_2 l0_2.length c0_2], .agg #[.int .i64 a1_0, .int .i64 a1_1], .int .i64 a2] w fun e w' => e = .returned (.bool r) ∧ Below w.heap.size w w' := by
 have hu24 := Try.underlying24
 have hu26 := Try.underlying26
 have hu30 := Try.underlying30
 have HR0_2 := Aside0.mk hr0_2
 have HC0_2 := Aside0.mk hc0_2
 clear hr0_2 hc0_2
 have HB := Aside0.mk (Below.refl w.heap.size w)
 have H : ((laws_szBoard.f a0_0 a0_1 l0_2 1048576).bind fun t840 => (if t840 < 0 then (some true) else ((laws_toBoard.f k a0_0 a0_1 l0_2).bind fun bt841 => ((laws_toLeaper.f a1_0 a1_1).bind fun bt846 => ((spec_FarthestFrom.f k bt841.1 bt841.2.1 bt841.2.2 bt846.1 bt846.2 a2).bind fun bt848 => ((laws_toBoard.f k a0_0 a0_1 l0_2).bind fun bt851 => ((laws_toLeaper.f a1_0 a1_1).bind fun bt857 => ((impl_FarthestFrom.f k bt851.1 bt851.2.1 bt851.2.2 bt857.1 bt857.2 a2).bind fun bt859 => (if bt859.1 = bt848.1 then (if bt859.2.1 = bt848.2.1 then (laws_FnExactFarthestFrom.j0 k (bt859.2.2 != bt848.2.2) a0_0 a0_1 l0_2 bt851.1 bt851.2.1 bt851.2.2) else (laws_FnExactFarthestFrom.j0 k true a0_0 a0_1 l0_2 bt851.1 bt851.2.1 bt851.2.2)) else (laws_FnExactFarthestFrom.j0 k true a0_0 a0_1 l0_2 bt851.1 bt851.2.1 bt851.2.2)))))))))) = some r := h
 clear h
 replace H := Option.bind_eq_some_iff.mp H
 obtain ⟨t840, A40, H⟩ := H
 replace H : (if t840 < 0 then (some true) else ((laws_toBoard.f k a0_0 a0_1 l0_2).bind fun bt841 => ((laws_toLeaper.f a1_0 a1_1).bind fun bt846 => ((spec_FarthestFrom.f k bt841.1 bt841.2.1 bt841.2.2 bt846.1 bt846.2 a2).bind fun bt848 => ((laws_toBoard.f k a0_0 a0_1 l0_2).bind fun bt851 => ((laws_toLeaper.f a1_0 a1_1).bind fun bt857 => ((impl_FarthestFrom.f k bt851.1 bt851.2.1 bt851.2.2 bt857.1 bt857.2 a2).bind fun bt859 => (if bt859.1 = bt848.1 then (if bt859.2.1 = bt848.2.1 then (laws_FnExactFarthestFrom.j0 k (bt859.2.2 != bt848.2.2) a0_0 a0_1 l0_2 bt851.1 bt851.2.1 bt851.2.2) else (laws_FnExactFarthestFrom.j0 k true a0_0 a0_1 l0_2 bt851.1 bt851.2.1 bt851.2.2)) else (laws_FnExactFarthestFrom.j0 k true a0_0 a0_1 l0_2 bt851.1 bt851.2.1 bt851.2.2))))))))) = some r := H
 have A4 := Aside0.mk A40
 clear A40
 by_cases c5 : t840 < 0
 ·rw [if_pos c5] at H
  have c5b0 : decide (t840 < 0) = true := decide_eq_true c5
  clear c5
  obtain rfl := Option.some.inj H
  go_enter Try.func9, Try.ntmps9
  go_wp2_with (first | ((with_reducible refine gate_dst (N := 3) rfl ?_); refine box_event ?hg (N := 3) ?hd (cs := #[.int .i64 a0_0, .int .i64 a0_1, .slice A0_2 l0_2.length c0_2]) (t := 24) ?hr ?_; (case hd => rfl); (case hg => rfl); (case hr => first | (go_simp; done) | (go_simp; rfl)); intro gb838 hg w6 hbox hb; have n0_ := Aside0.mk (below_step zaj10 hb); have n1_ := Aside0.mk (hbox); have n2_ := Aside0.mk ((by rw [hg]; exact (below_size zaj10) : w.heap.size ≤ gb838)); have n3_ := Aside0.mk ((by rw [hg]; exact (below_size zaj10) : w.heap.size ≤ gb838)); clear HB; have HB := n0_; have BK838 := n1_; have GW838 := n2_; have GE838 := n3_; clear n0_ n1_ n2_ n3_; clear hb hbox hg) | ((with_reducible refine gate_dst (N := 4) rfl ?_); refine box_event ?hg (N := 4) ?hd (cs := #[.int .i64 a1_0, .int .i64 a1_1]) (t := 26) ?hr ?_; (case hd => rfl); (case hg => rfl); (case hr => first | (go_simp; done) | (go_simp; rfl)); intro gb839 hg w7 hbox hb; have n0_ := Aside0.mk (blk_below (g := gb838) (o := .cells #[.int .i64 a0_0, .int .i64 a0_1, .slice A0_2 l0_2.length c0_2] 24 (0, 0)) zaj2 hb); have n1_ := Aside0.mk (below_step zaj9 hb); have n2_ := Aside0.mk (hbox); have n3_ := Aside0.mk ((by rw [hg]; exact (below_size zaj9) : w.heap.size ≤ gb839)); have n4_ := Aside0.mk ((by rw [hg]; exact (below_size zaj9) : w.heap.size ≤ gb839)); have n5_ := Aside0.mk ((zaj18 : gb838 ≠ gb839)); have n6_ := Aside0.mk ((zaj19 : gb839 ≠ gb838)); clear BK838; clear HB; have BK838 := n0_; have HB := n1_; have BK839 := n2_; have GW839 := n3_; have GE839 := n4_; have NB838_839 := n5_; have NB839_838 := n6_; clear n0_ n1_ n2_ n3_ n4_ n5_ n6_; clear hb hbox hg; have hnb8 := NB838_839.out; have hnc8 := NB839_838.out; have hcz9_0 : w7.cell? ⟨gb838, 0, none⟩ = some (.int .i64 a0_0) := (blk_cell BK838.out 0).trans rfl; have hcz9_1 : w7.cell? ⟨gb838, 1, none⟩ = some (.int .i64 a0_1) := (blk_cell BK838.out 1).trans rfl; have hcz9_2 : w7.cell? ⟨gb838, 2, none⟩ = some (.slice A0_2 l0_2.length c0_2) := (blk_cell BK838.out 2).trans rfl; have hfz9_0 := blk_frozen BK838.out 0; have hfz9_1 := blk_frozen BK838.out 1; have hfz9_2 := blk_frozen BK838.out 2) | ((with_reducible refine gate_callee (f := 15) rfl ?_); refine goesL_ (some 17) rfl rfl Try.func15 (by kernel_rfl) rfl #[.agg #[.int .i64 a0_0, .int .i64 a0_1, .slice A0_2 l0_2.length c0_2], .int .i64 1048576] rfl zaj6 ?_; (with_reducible refine (laws_szBoard.calls a0_0 a0_1 _ _ l0_2 1048576 t840 _ ?side1 ?side2 A4.out).mono ?_); (case side1 => exact zaj8); (case side2 => exact HC0_2.out); rintro e w10 ⟨rfl, hb⟩; refine ⟨_, rfl, ?_⟩; have n0_ := Aside0.mk (blk_below (g := gb838) (o := .cells #[.int .i64 a0_0, .int .i64 a0_1, .slice A0_2 l0_2.length c0_2] 24 (0, 0)) zaj2 hb); have n1_ := Aside0.mk (blk_below (g := gb839) (o := .cells #[.int .i64 a1_0, .int .i64 a1_1] 26 (0, 0)) zaj5 hb); have n2_ := Aside0.mk (below_step zaj4 hb); clear BK838; clear BK839; clear HB; have BK838 := n0_; have BK839 := n1_; have HB := n2_; clear n0_ n1_ n2_; (try clear hb); (try clear hb2); (try clear hk); (try clear hi); (try clear hna_); (try clear hnb_)))
  go_ret
  exact ⟨zaj13, zaj4⟩
 rw [if_neg c5] at H
 have c5b0 : decide (t840 < 0) = false := decide_eq_false c5
 clear c5
 replace H := Option.bind_eq_some_iff.mp H
 obtain ⟨⟨t841, t842, t843⟩, A110, H⟩ := H
 replace H : ((laws_toLeaper.f a1_0 a1_1).bind fun bt846 => ((spec_FarthestFrom.f k t841 t842 t843 bt846.1 bt846.2 a2).bind fun bt848 => ((laws_toBoard.f k a0_0 a0_1 l0_2).bind fun bt851 => ((laws_toLeaper.f a1_0 a1_1).bind fun bt857 => ((impl_FarthestFrom.f k bt851.1 bt851.2.1 bt851.2.2 bt857.1 bt857.2 a2).bind fun bt859 => (if bt859.1 = bt848.1 then (if bt859.2.1 = bt848.2.1 then (laws_FnExactFarthestFrom.j0 k (bt859.2.2 != bt848.2.2) a0_0 a0_1 l0_2 bt851.1 bt851.2.1 bt851.2.2) else (laws_FnExactFarthestFrom.j0 k true a0_0 a0_1 l0_2 bt851.1 bt851.2.1 bt851.2.2)) else (laws_FnExactFarthestFrom.j0 k true a0_0 a0_1 l0_2 bt851.1 bt851.2.1 bt851.2.2))))))) = some r := H
 have A11 := Aside0.mk A110
 clear A110
 replace H := Option.bind_eq_some_iff.mp H
 obtain ⟨⟨t846, t847⟩, A120, H⟩ := H
 replace H : ((spec_FarthestFrom.f k t841 t842 t843 t846 t847 a2).bind fun bt848 => ((laws_toBoard.f k a0_0 a0_1 l0_2).bind fun bt851 => ((laws_toLeaper.f a1_0 a1_1).bind fun bt857 => ((impl_FarthestFrom.f k bt851.1 bt851.2.1 bt851.2.2 bt857.1 bt857.2 a2).bind fun bt859 => (if bt859.1 = bt848.1 then (if bt859.2.1 = bt848.2.1 then (laws_FnExactFarthestFrom.j0 k (bt859.2.2 != bt848.2.2) a0_0 a0_1 l0_2 bt851.1 bt851.2.1 bt851.2.2) else (laws_FnExactFarthestFrom.j0 k true a0_0 a0_1 l0_2 bt851.1 bt851.2.1 bt851.2.2)) else (laws_FnExactFarthestFrom.j0 k true a0_0 a0_1 l0_2 bt851.1 bt851.2.1 bt851.2.2)))))) = some r := H
 have A12 := Aside0.mk A120
 clear A120
 replace H := Option.bind_eq_some_iff.mp H
 obtain ⟨⟨t848, t849, t850⟩, A130, H⟩ := H
 replace H : ((laws_toBoard.f k a0_0 a0_1 l0_2).bind fun bt851 => ((laws_toLeaper.f a1_0 a1_1).bind fun bt857 => ((impl_FarthestFrom.f k bt851.1 bt851.2.1 bt851.2.2 bt857.1 bt857.2 a2).bind fun bt859 => (if bt859.1 = t848 then (if bt859.2.1 = t849 then (laws_FnExactFarthestFrom.j0 k (bt859.2.2 != t850) a0_0 a0_1 l0_2 bt851.1 bt851.2.1 bt851.2.2) else (laws_FnExactFarthestFrom.j0 k true a0_0 a0_1 l0_2 bt851.1 bt851.2.1 bt851.2.2)) else (laws_FnExactFarthestFrom.j0 k true a0_0 a0_1 l0_2 bt851.1 bt851.2.1 bt851.2.2))))) = some r := H
 have A13 := Aside0.mk A130
 clear A130
 replace H := Option.bind_eq_some_iff.mp H
 obtain ⟨⟨t851, t852, t853⟩, A140, H⟩ := H
 replace H : ((laws_toLeaper.f a1_0 a1_1).bind fun bt857 => ((impl_FarthestFrom.f k t851 t852 t853 bt857.1 bt857.2 a2).bind fun bt859 => (if bt859.1 = t848 then (if bt859.2.1 = t849 then (laws_FnExactFarthestFrom.j0 k (bt859.2.2 != t850) a0_0 a0_1 l0_2 t851 t852 t853) else (laws_FnExactFarthestFrom.j0 k true a0_0 a0_1 l0_2 t851 t852 t853)) else (laws_FnExactFarthestFrom.j0 k true a0_0 a0_1 l0_2 t851 t852 t853)))) = some r := H
 have A14 := Aside0.mk A140
 clear A140
 replace H := Option.bind_eq_some_iff.mp H
 obtain ⟨⟨t857, t858⟩, A150, H⟩ := H
 replace H : ((impl_FarthestFrom.f k t851 t852 t853 t857 t858 a2).bind fun bt859 => (if bt859.1 = t848 then (if bt859.2.1 = t849 then (laws_FnExactFarthestFrom.j0 k (bt859.2.2 != t850) a0_0 a0_1 l0_2 t851 t852 t853) else (laws_FnExactFarthestFrom.j0 k true a0_0 a0_1 l0_2 t851 t852 t853)) else (laws_FnExactFarthestFrom.j0 k true a0_0 a0_1 l0_2 t851 t852 t853))) = some r := H
 have A15 := Aside0.mk A150
 clear A150
 replace H := Option.bind_eq_some_iff.mp H
 obtain ⟨⟨t859, t860, t861⟩, A160, H⟩ := H
 replace H : (if t859 = t848 then (if t860 = t849 then (laws_FnExactFarthestFrom.j0 k (t861 != t850) a0_0 a0_1 l0_2 t851 t852 t853) else (laws_FnExactFarthestFrom.j0 k true a0_0 a0_1 l0_2 t851 t852 t853)) else (laws_FnExactFarthestFrom.j0 k true a0_0 a0_1 l0_2 t851 t852 t853)) = some r := H
 have A16 := Aside0.mk A160
 clear A160
 have HC17 := Aside0.mk H
 clear H
 go_enter Try.func9, Try.ntmps9
 try go_wp2_with (first | ((with_reducible refine gate_dst (N := 3) rfl ?_); refine box_event ?hg (N := 3) ?hd (cs := #[.int .i64 a0_0, .int .i64 a0_1, .slice A0_2 l0_2.length c0_2]) (t := 24) ?hr ?_; (case hd => rfl); (case hg => rfl); (case hr => first | (go_simp; done) | (go_simp; rfl)); intro gb838 hg w18 hbox hb; have n0_ := Aside0.mk (below_step zaj10 hb); have n1_ := Aside0.mk (hbox); have n2_ := Aside0.mk ((by rw [hg]; exact (below_size zaj10) : w.heap.size ≤ gb838)); have n3_ := Aside0.mk ((by rw [hg]; exact (below_size zaj10) : w.heap.size ≤ gb838)); clear HB; have HB := n0_; have BK838 := n1_; have GW838 := n2_; have GE838 := n3_; clear n0_ n1_ n2_ n3_; clear hb hbox hg) | ((with_reducible refine gate_dst (N := 4) rfl ?_); refine box_event ?hg (N := 4) ?hd (cs := #[.int .i64 a1_0, .int .i64 a1_1]) (t := 26) ?hr ?_; (case hd => rfl); (case hg => rfl); (case hr => first | (go_simp; done) | (go_simp; rfl)); intro gb839 hg w19 hbox hb; have n0_ := Aside0.mk (blk_below (g := gb838) (o := .cells #[.int .i64 a0_0, .int .i64 a0_1, .slice A0_2 l0_2.length c0_2] 24 (0, 0)) zaj2 hb); have n1_ := Aside0.mk (below_step zaj9 hb); have n2_ := Aside0.mk (hbox); have n3_ := Aside0.mk ((by rw [hg]; exact (below_size zaj9) : w.heap.size ≤ gb839)); have n4_ := Aside0.mk ((by rw [hg]; exact (below_size zaj9) : w.heap.size ≤ gb839)); have n5_ := Aside0.mk ((zaj18 : gb838 ≠ gb839)); have n6_ := Aside0.mk ((zaj19 : gb839 ≠ gb838)); clear BK838; clear HB; have BK838 := n0_; have HB := n1_; have BK839 := n2_; have GW839 := n3_; have GE839 := n4_; have NB838_839 := n5_; have NB839_838 := n6_; clear n0_ n1_ n2_ n3_ n4_ n5_ n6_; clear hb hbox hg; have hnb20 := NB838_839.out; have hnc20 := NB839_838.out; have hcz21_0 : w19.cell? ⟨gb838, 0, none⟩ = some (.int .i64 a0_0) := (blk_cell BK838.out 0).trans rfl; have hcz21_1 : w19.cell? ⟨gb838, 1, none⟩ = some (.int .i64 a0_1) := (blk_cell BK838.out 1).trans rfl; have hcz21_2 : w19.cell? ⟨gb838, 2, none⟩ = some (.slice A0_2 l0_2.length c0_2) := (blk_cell BK838.out 2).trans rfl; have hfz21_0 := blk_frozen BK838.out 0; have hfz21_1 := blk_frozen BK838.out 1; have hfz21_2 := blk_frozen BK838.out 2) | ((with_reducible refine gate_callee (f := 15) rfl ?_); refine goesL_ (some 17) rfl rfl Try.func15 (by kernel_rfl) rfl #[.agg #[.int .i64 a0_0, .int .i64 a0_1, .slice A0_2 l0_2.length c0_2], .int .i64 1048576] rfl zaj6 ?_; (with_reducible refine (laws_szBoard.calls a0_0 a0_1 _ _ l0_2 1048576 t840 _ ?side1 ?side2 A4.out).mono ?_); (case side1 => exact zaj8); (case side2 => exact HC0_2.out); rintro e w22 ⟨rfl, hb⟩; refine ⟨_, rfl, ?_⟩; have n0_ := Aside0.mk (blk_below (g := gb838) (o := .cells #[.int .i64 a0_0, .int .i64 a0_1, .slice A0_2 l0_2.length c0_2] 24 (0, 0)) zaj2 hb); have n1_ := Aside0.mk (blk_below (g := gb839) (o := .cells #[.int .i64 a1_0, .int .i64 a1_1] 26 (0, 0)) zaj5 hb); have n2_ := Aside0.mk (below_step zaj4 hb); clear BK838; clear BK839; clear HB; have BK838 := n0_; have BK839 := n1_; have HB := n2_; clear n0_ n1_ n2_; (try clear hb); (try clear hb2); (try clear hk); (try clear hi); (try clear hna_); (try clear hnb_)))
 have n0_ := Aside0.mk (blk_drew BK838.out)
 have n1_ := Aside0.mk (blk_drew BK839.out)
 have n2_ := Aside0.mk (below_drew1 HB.out)
 clear BK838
 clear BK839
 clear HB
 have BK838 := n0_
 have BK839 := n1_
 have HB := n2_
 clear n0_ n1_ n2_
 refine start_ (n := 13) (S := fun w' => w'.cell? ⟨gb838, 0, none⟩ = some (.int .i64 a0_0) ∧ w'.cell? ⟨gb838, 1, none⟩ = some (.int .i64 a0_1) ∧ w'.cell? ⟨gb838, 2, none⟩ = some (.slice A0_2 l0_2.length c0_2) ∧ w'.cell? ⟨gb839, 0, none⟩ = some (.int .i64 a1_0) ∧ w'.cell? ⟨gb839, 1, none⟩ = some (.int .i64 a1_1)) (ds := []) #[false, false, false, false, false, false, false, false, false, false, false, false, false] (by kernel_rfl) rfl rfl ⟨(blk_cell BK838.out 0).trans rfl, (blk_cell BK838.out 1).trans rfl, (blk_cell BK838.out 2).trans rfl, (blk_cell BK839.out 0).trans rfl, (blk_cell BK839.out 1).trans rfl⟩ (fun hHeld => ?_); refine with_tabW laws_FnExactFarthestFrom.tab5 laws_FnExactFarthestFrom.bits5 (fun HT_ HW_ => ?_)
 generalize w22.drew = w23 at BK838 BK839 HB hHeld ⊢
 refine pure_ (i := 4) (N := some 25) (v := ?_) (a' := ?_) #[false, false, false, false, true, false, false, false, false, false, false, false, false] rfl rfl (any_of HT_.out (by kernel_rfl)) (fun _ _ _ h => h) (Or.inl ⟨by rfl, ?_⟩) ?_ ?_
 rotate_left
 ·intro w'
  go_simp
  with_reducible rfl
 rotate_left
 ·simp only [Act.put, List.setIfInBounds_toArray, List.set_cons_zero, List.set_cons_succ, i64_w, i32_w]
  rfl
 refine take_ (i := 0) (N := some 21) (v := ?_) (a' := ?_) #[true, false, false, false, true, false, false, false, false, false, false, false, false] rfl rfl (take_ofW HT_.out HW_.out (by kernel_rfl)) (fun _ _ _ h => h) (Or.inl ⟨by rfl, ?_⟩) hHeld ?_ ?_
 rotate_left
 ·rintro w' ⟨s0, s1, s2, s3, s4⟩
  go_simp
  with_reducible rfl
 rotate_left
 ·simp only [Act.put, List.setIfInBounds_toArray, List.set_cons_zero, List.set_cons_succ, i64_w, i32_w]
  rfl
 refine take_ (i := 2) (N := some 23) (v := ?_) (a' := ?_) #[true, false, true, false, true, false, false, false, false, false, false, false, false] rfl rfl (take_ofW HT_.out HW_.out (by kernel_rfl)) (fun _ _ _ h => h) (Or.inl ⟨by rfl, ?_⟩) hHeld ?_ ?_
 rotate_left
 ·rintro w' ⟨s0, s1, s2, s3, s4⟩
  go_simp
  with_reducible rfl
 rotate_left
 ·simp only [Act.put, List.setIfInBounds_toArray, List.set_cons_zero, List.set_cons_succ, i64_w, i32_w]
  rfl
 refine one_ (i := 1) (N := some 22) #[true, true, true, false, true, false, false, false, false, false, false, false, false] rfl rfl (one_of HT_.out (by kernel_rfl)) (by decide) (fun K hK => ?_)
 refine goes_ Try.func17 (by kernel_rfl) rfl #[.agg #[.int .i64 a0_0, .int .i64 a0_1, .slice A0_2 l0_2.length c0_2]] (by rfl) rfl rfl zaj6 ?_
 with_reducible refine (laws_toBoard.calls k a0_0 a0_1 _ _ l0_2 t841 t842 t843 _ ?side1 ?side2 A11.out).mono ?_
 (case side1 => exact zaj8)
 (case side2 => exact HC0_2.out)
 rintro e w24 ⟨v844, rfl, ho0, hb⟩
 refine ⟨_, rfl, ?_⟩
 have n0_ := Aside0.mk (Kd.R_lower ho0 (below_size zaj4))
 have n1_ := Aside0.mk (blk_below (g := gb838) (o := .cells #[.int .i64 a0_0, .int .i64 a0_1, .slice A0_2 l0_2.length c0_2] 24 (0, 0)) zaj2 hb)
 have n2_ := Aside0.mk (blk_below (g := gb839) (o := .cells #[.int .i64 a1_0, .int .i64 a1_1] 26 (0, 0)) zaj5 hb)
 have n3_ := Aside0.mk (below_step zaj4 hb)
 clear BK838
 clear BK839
 clear HB
 have HO845 := n0_
 have BK838 := n1_
 have BK839 := n2_
 have HB := n3_
 clear n0_ n1_ n2_ n3_
 (try clear hb)
 (try clear hb2)
 (try clear hk)
 (try clear hi)
 (try clear ho0)
 (try clear hna_)
 (try clear hnb_)
 refine hK.out _ _ ⟨(blk_cell BK838.out 0).trans rfl, (blk_cell BK838.out 1).trans rfl, (blk_cell BK838.out 2).trans rfl, (blk_cell BK839.out 0).trans rfl, (blk_cell BK839.out 1).trans rfl⟩ (fun hHeld => ?_)
 clear hK K
 refine norm_ (a' := ?_) ?_ ?_
 rotate_left
 ·show Act.put _ (some 22) _ = _
  simp only [Act.put, List.setIfInBounds_toArray, List.set_cons_zero, List.set_cons_succ, i64_w, i32_w]
  rfl
 refine one_ (i := 3) (N := some 24) #[true, true, true, true, true, false, false, false, false, false, false, false, false] rfl rfl (one_of HT_.out (by kernel_rfl)) (by decide) (fun K hK => ?_)
 refine goes_ Try.func18 (by kernel_rfl) rfl #[.agg #[.int .i64 a1_0, .int .i64 a1_1]] (by rfl) rfl rfl zaj6 ?_
 with_reducible refine (laws_toLeaper.calls a1_0 a1_1 t846 t847 _ A12.out).mono ?_
 rintro e w25 ⟨rfl, hb⟩
 refine ⟨_, rfl, ?_⟩
 have n0_ := Aside0.mk (Kd.R_below zaj11 hb)
 have n1_ := Aside0.mk (blk_below (g := gb838) (o := .cells #[.int .i64 a0_0, .int .i64 a0_1, .slice A0_2 l0_2.length c0_2] 24 (0, 0)) zaj2 hb)
 have n2_ := Aside0.mk (blk_below (g := gb839) (o := .cells #[.int .i64 a1_0, .int .i64 a1_1] 26 (0, 0)) zaj5 hb)
 have n3_ := Aside0.mk (below_step zaj4 hb)
 clear HO845
 clear BK838
 clear BK839
 clear HB
 have HO845 := n0_
 have BK838 := n1_
 have BK839 := n2_
 have HB := n3_
 clear n0_ n1_ n2_ n3_
 (try clear hb)
 (try clear hb2)
 (try clear hk)
 (try clear hi)
 (try clear hna_)
 (try clear hnb_)
 obtain ⟨Ao26, co26, eo26⟩ := Kd.R_slice HO845.out
 (first | subst eo26 | (injection eo26 with f1_ f2_ f3_; have f4_ := f1_.symm; have f5_ := f3_.symm; clear f1_ f2_ f3_; subst f4_; subst f5_))
 refine hK.out _ _ ⟨(blk_cell BK838.out 0).trans rfl, (blk_cell BK838.out 1).trans rfl, (blk_cell BK838.out 2).trans rfl, (blk_cell BK839.out 0).trans rfl, (blk_cell BK839.out 1).trans rfl⟩ (fun hHeld => ?_)
 clear hK K
 refine norm_ (a' := ?_) ?_ ?_
 rotate_left
 ·show Act.put _ (some 24) _ = _
  simp only [Act.put, List.setIfInBounds_toArray, List.set_cons_zero, List.set_cons_succ, i64_w, i32_w]
  rfl
 refine one_ (i := 5) (N := some 26) #[true, true, true, true, true, true, false, false, false, false, false, false, false] rfl rfl (one_of HT_.out (by kernel_rfl)) (by decide) (fun K hK => ?_)
 refine goes_ Try.func36 (by kernel_rfl) rfl #[.agg #[.int .i64 t841, .int .i64 t842, .slice Ao26 t843.length co26], .agg #[.int .i64 t846, .int .i64 t847], .int .i64 a2] (by rfl) rfl rfl zaj6 ?_
 with_reducible refine (spec_FarthestFrom.calls k t841 t842 _ _ t843 t846 t847 a2 t848 t849 t850 _ ?side1 ?side2 A13.out).mono ?_
 (case side1 => repeat (first | exact (Kd.R_reads' HO845.out).2.2 | (with_reducible refine Kd.C_alloc ?_ _) | (with_reducible refine Kd.C_drewN ?_ _) | (with_reducible refine Kd.C_drew ?_)))
 (case side2 => exact (Kd.R_reads' HO845.out).2.1)
 rintro e w27 ⟨rfl, hb⟩
 refine ⟨_, rfl, ?_⟩
 have n0_ := Aside0.mk (Kd.R_below zaj11 hb)
 have n1_ := Aside0.mk (blk_below (g := gb838) (o := .cells #[.int .i64 a0_0, .int .i64 a0_1, .slice A0_2 l0_2.length c0_2] 24 (0, 0)) zaj2 hb)
 have n2_ := Aside0.mk (blk_below (g := gb839) (o := .cells #[.int .i64 a1_0, .int .i64 a1_1] 26 (0, 0)) zaj5 hb)
 have n3_ := Aside0.mk (below_step zaj4 hb)
 clear HO845
 clear BK838
 clear BK839
 clear HB
 have HO845 := n0_
 have BK838 := n1_
 have BK839 := n2_
 have HB := n3_
 clear n0_ n1_ n2_ n3_
 (try clear hb)
 (try clear hb2)
 (try clear hk)
 (try clear hi)
 (try clear hna_)
 (try clear hnb_)
 refine hK.out _ _ ⟨(blk_cell BK838.out 0).trans rfl, (blk_cell BK838.out 1).trans rfl, (blk_cell BK838.out 2).trans rfl, (blk_cell BK839.out 0).trans rfl, (blk_cell BK839.out 1).trans rfl⟩ (fun hHeld => ?_)
 clear hK K
 refine norm_ (a' := ?_) ?_ ?_
 rotate_left
 ·show Act.put _ (some 26) _ = _
  simp only [Act.put, List.setIfInBounds_toArray, List.set_cons_zero, List.set_cons_succ, i64_w, i32_w]
  rfl
 refine pure_ (i := 6) (N := some 20) (v := ?_) (a' := ?_) #[true, true, true, true, true, true, true, false, false, false, false, false, false] rfl rfl (any_of HT_.out (by kernel_rfl)) (fun _ _ _ h => h) (Or.inl ⟨by rfl, ?_⟩) ?_ ?_
 rotate_left
 ·intro w'
  go_simp
  with_reducible rfl
 rotate_left
 ·simp only [Act.put, List.setIfInBounds_toArray, List.set_cons_zero, List.set_cons_succ, i64_w, i32_w]
  rfl
 refine pure_ (i := 7) (N := some 27) (v := ?_) (a' := ?_) #[true, true, true, true, true, true, true, true, false, false, false, false, false] rfl rfl (any_of HT_.out (by kernel_rfl)) (fun _ _ _ h => h) (Or.inl ⟨by rfl, ?_⟩) ?_ ?_
 rotate_left
 ·intro w'
  go_simp
  with_reducible rfl
 rotate_left
 ·simp only [Act.put, List.setIfInBounds_toArray, List.set_cons_zero, List.set_cons_succ, i64_w, i32_w]
  rfl
 refine pure_ (i := 8) (N := some 28) (v := ?_) (a' := ?_) #[true, true, true, true, true, true, true, true, true, false, false, false, false] rfl rfl (any_of HT_.out (by kernel_rfl)) (fun _ _ _ h => h) (Or.inl ⟨by rfl, ?_⟩) ?_ ?_
 rotate_left
 ·intro w'
  go_simp
  with_reducible rfl
 rotate_left
 ·simp only [Act.put, List.setIfInBounds_toArray, List.set_cons_zero, List.set_cons_succ, i64_w, i32_w]
  rfl
 refine pure_ (i := 9) (N := some 29) (v := ?_) (a' := ?_) #[true, true, true, true, true, true, true, true, true, true, false, false, false] rfl rfl (any_of HT_.out (by kernel_rfl)) (fun _ _ _ h => h) (Or.inl ⟨by rfl, ?_⟩) ?_ ?_
 rotate_left
 ·intro w'
  go_simp
  with_reducible rfl
 rotate_left
 ·simp only [Act.put, List.setIfInBounds_toArray, List.set_cons_zero, List.set_cons_succ, i64_w, i32_w]
  rfl
 refine pure_ (i := 10) (N := some 8) (v := ?_) (a' := ?_) #[true, true, true, true, true, true, true, true, true, true, true, false, false] rfl rfl (any_of HT_.out (by kernel_rfl)) (fun _ _ _ h => h) (Or.inl ⟨by rfl, ?_⟩) ?_ ?_
 rotate_left
 ·intro w'
  go_simp
  with_reducible rfl
 rotate_left
 ·simp only [Act.put, List.setIfInBounds_toArray, List.set_cons_zero, List.set_cons_succ, i64_w, i32_w]
  rfl
 refine pure_ (i := 11) (N := some 9) (v := ?_) (a' := ?_) #[true, true, true, true, true, true, true, true, true, true, true, true, false] rfl rfl (any_of HT_.out (by kernel_rfl)) (fun _ _ _ h => h) (Or.inl ⟨by rfl, ?_⟩) ?_ ?_
 rotate_left
 ·intro w'
  go_simp
  with_reducible rfl
 rotate_left
 ·simp only [Act.put, List.setIfInBounds_toArray, List.set_cons_zero, List.set_cons_succ, i64_w, i32_w]
  rfl
 refine pure_ (i := 12) (N := some 10) (v := ?_) (a' := ?_) #[true, true, true, true, true, true, true, true, true, true, true, true, true] rfl rfl (any_of HT_.out (by kernel_rfl)) (fun _ _ _ h => h) (Or.inl ⟨by rfl, ?_⟩) ?_ ?_
 rotate_left
 ·intro w'
  go_simp
  with_reducible rfl
 rotate_left
 ·simp only [Act.put, List.setIfInBounds_toArray, List.set_cons_zero, List.set_cons_succ, i64_w, i32_w]
  rfl
 refine done_ (done_of HT_.out (by kernel_rfl)) ?_
 have hcz28_0 : w27.cell? ⟨gb838, 0, none⟩ = some (.int .i64 a0_0) := (blk_cell BK838.out 0).trans rfl
 have hcz28_1 : w27.cell? ⟨gb838, 1, none⟩ = some (.int .i64 a0_1) := (blk_cell BK838.out 1).trans rfl
 have hcz28_2 : w27.cell? ⟨gb838, 2, none⟩ = some (.slice A0_2 l0_2.length c0_2) := (blk_cell BK838.out 2).trans rfl
 have hfz28_0 := blk_frozen BK838.out 0
 have hfz28_1 := blk_frozen BK838.out 1
 have hfz28_2 := blk_frozen BK838.out 2
 try go_wp2_with (first | ((with_reducible refine gate_callee (f := 17) rfl ?_); refine goesL_ (some 31) rfl rfl Try.func17 (by kernel_rfl) rfl #[.agg #[.int .i64 a0_0, .int .i64 a0_1, .slice A0_2 l0_2.length c0_2]] rfl zaj6 ?_; (with_reducible refine (laws_toBoard.calls k a0_0 a0_1 _ _ l0_2 t851 t852 t853 _ ?side1 ?side2 A14.out).mono ?_); (case side1 => exact zaj8); (case side2 => exact HC0_2.out); rintro e w29 ⟨v854, rfl, ho0, hb⟩; refine ⟨_, rfl, ?_⟩; have n0_ := Aside0.mk (Kd.R_elder' zaj11 (Kd.R_base ho0) hb); have n1_ := Aside0.mk (Kd.R_lower (Kd.R_new' ho0 (Kd.R_lt zaj11)) (below_size zaj4)); have n2_ := Aside0.mk (blk_below (g := gb838) (o := .cells #[.int .i64 a0_0, .int .i64 a0_1, .slice A0_2 l0_2.length c0_2] 24 (0, 0)) zaj2 hb); have n3_ := Aside0.mk (blk_below (g := gb839) (o := .cells #[.int .i64 a1_0, .int .i64 a1_1] 26 (0, 0)) zaj5 hb); have n4_ := Aside0.mk (below_step zaj4 hb); clear HO845; clear BK838; clear BK839; clear HB; have HO845 := n0_; have HO855 := n1_; have BK838 := n2_; have BK839 := n3_; have HB := n4_; clear n0_ n1_ n2_ n3_ n4_; (try clear hb); (try clear hb2); (try clear hk); (try clear hi); (try clear ho0); (try clear hna_); (try clear hnb_)) | ((with_reducible refine gate_dst (N := 11) rfl ?_); refine box_event ?hg (N := 11) ?hd (cs := #[.int .i64 0, .int .i64 0, .slice none 0 0]) (t := 30) ?hr ?_; (case hd => rfl); (case hg => rfl); (case hr => first | (go_simp; done) | (go_simp; rfl)); intro gb856 hg w30 hbox hb; have n0_ := Aside0.mk (Kd.R_below zaj11 hb); have n1_ := Aside0.mk (Kd.R_below zaj15 hb); have n2_ := Aside0.mk (blk_below (g := gb838) (o := .cells #[.int .i64 a0_0, .int .i64 a0_1, .slice A0_2 l0_2.length c0_2] 24 (0, 0)) zaj2 hb); have n3_ := Aside0.mk (blk_below (g := gb839) (o := .cells #[.int .i64 a1_0, .int .i64 a1_1] 26 (0, 0)) zaj5 hb); have n4_ := Aside0.mk (below_step zaj4 hb); have n5_ := Aside0.mk (hbox); have n6_ := Aside0.mk ((by rw [hg]; exact (below_size zaj4) : w.heap.size ≤ gb856)); have n7_ := Aside0.mk ((by rw [hg]; exact (below_size zaj4) : w.heap.size ≤ gb856)); have n8_ := Aside0.mk ((zaj18 : gb838 ≠ gb856)); have n9_ := Aside0.mk ((zaj19 : gb856 ≠ gb838)); have n10_ := Aside0.mk ((by rw [hg]; exact Nat.ne_of_lt (blk_lt (g := gb839) (o := .cells #[.int .i64 a1_0, .int .i64 a1_1] 26 (0, 0)) zaj5) : gb839 ≠ gb856)); have n11_ := Aside0.mk ((by rw [hg]; exact Nat.ne_of_gt (blk_lt (g := gb839) (o := .cells #[.int .i64 a1_0, .int .i64 a1_1] 26 (0, 0)) zaj5) : gb856 ≠ gb839)); clear HO845; clear HO855; clear BK838; clear BK839; clear HB; have HO845 := n0_; have HO855 := n1_; have BK838 := n2_; have BK839 := n3_; have HB := n4_; have BK856 := n5_; have GW856 := n6_; have GE856 := n7_; have NB838_856 := n8_; have NB856_838 := n9_; have NB839_856 := n10_; have NB856_839 := n11_; clear n0_ n1_ n2_ n3_ n4_ n5_ n6_ n7_ n8_ n9_ n10_ n11_; clear hb hbox hg; have hnb31 := NB856_838.out; have hnc31 := NB838_856.out; have hnb32 := NB856_839.out; have hnc32 := NB839_856.out; have hcz33_0 : w30.cell? ⟨gb856, 0, none⟩ = some (.int .i64 0) := (blk_cell BK856.out 0).trans rfl; have hcz33_1 : w30.cell? ⟨gb856, 1, none⟩ = some (.int .i64 0) := (blk_cell BK856.out 1).trans rfl; have hcz33_2 : w30.cell? ⟨gb856, 2, none⟩ = some (.slice none 0 0) := (blk_cell BK856.out 2).trans rfl; have hfz33_0 := blk_frozen BK856.out 0; have hfz33_1 := blk_frozen BK856.out 1; have hfz33_2 := blk_frozen BK856.out 2; obtain ⟨Ao34, co34, eo34⟩ := Kd.R_slice HO855.out; subst eo34))
 have n0_ : Aside0 (Kd.R (Kd.int .i64) 3 (((w30.setCell ⟨gb856, 0, none⟩ (.int .i64 t851)).setCell ⟨gb856, 1, none⟩ (.int .i64 t852)).setCell ⟨gb856, 2, none⟩ (.slice Ao34 t853.length co34)) w.heap.size (fun k_ => some k_ ≠ (.slice Ao34 t853.length co34 : Value).ownBlock) (.slice Ao26 t843.length co26) t843) := ⟨by (with_reducible repeat (first | apply Kd.R_alloc | apply Kd.R_drewN | apply Kd.R_drew)); exact Kd.R_mono (Kd.R_far (p := ⟨gb856, 2, none⟩) (Kd.R_far (p := ⟨gb856, 1, none⟩) (Kd.R_far (p := ⟨gb856, 0, none⟩) (Kd.R_types HO845.out BK856.out (by decide)) (fun _ hk => hk.2) (.int .i64 t851)) (fun _ hk => hk.2) (.int .i64 t852)) (fun _ hk => hk.2) (.slice Ao34 t853.length co34)) (fun _ hk => hk.1.2)⟩
 have n1_ : Aside0 (Kd.R (Kd.int .i64) 3 (((w30.setCell ⟨gb856, 0, none⟩ (.int .i64 t851)).setCell ⟨gb856, 1, none⟩ (.int .i64 t852)).setCell ⟨gb856, 2, none⟩ (.slice Ao34 t853.length co34)) w.heap.size (fun k_ => some k_ ≠ (.slice Ao26 t843.length co26 : Value).ownBlock) (.slice Ao34 t853.length co34) t853) := ⟨by (with_reducible repeat (first | apply Kd.R_alloc | apply Kd.R_drewN | apply Kd.R_drew)); exact Kd.R_mono (Kd.R_far (p := ⟨gb856, 2, none⟩) (Kd.R_far (p := ⟨gb856, 1, none⟩) (Kd.R_far (p := ⟨gb856, 0, none⟩) (Kd.R_types HO855.out BK856.out (by decide)) (fun _ hk => hk.2) (.int .i64 t851)) (fun _ hk => hk.2) (.int .i64 t852)) (fun _ hk => hk.2) (.slice Ao34 t853.length co34)) (fun _ hk => hk.1.2)⟩
 have n2_ : Aside0 ((((w30.setCell ⟨gb856, 0, none⟩ (.int .i64 t851)).setCell ⟨gb856, 1, none⟩ (.int .i64 t852)).setCell ⟨gb856, 2, none⟩ (.slice Ao34 t853.length co34)).heap[gb838]? = some (.cells #[.int .i64 a0_0, .int .i64 a0_1, .slice A0_2 l0_2.length c0_2] 24 (0, 0))) := ⟨by (with_reducible repeat (first | refine blk_drewN ?_ _ | refine blk_drew ?_ | refine blk_alloc ?_ _)); refine blk_far ?_ NB838_856.out _; (with_reducible repeat (first | refine blk_drewN ?_ _ | refine blk_drew ?_ | refine blk_alloc ?_ _)); refine blk_far ?_ NB838_856.out _; (with_reducible repeat (first | refine blk_drewN ?_ _ | refine blk_drew ?_ | refine blk_alloc ?_ _)); refine blk_far ?_ NB838_856.out _; (with_reducible repeat (first | refine blk_drewN ?_ _ | refine blk_drew ?_ | refine blk_alloc ?_ _)); exact BK838.out⟩
 have n3_ : Aside0 ((((w30.setCell ⟨gb856, 0, none⟩ (.int .i64 t851)).setCell ⟨gb856, 1, none⟩ (.int .i64 t852)).setCell ⟨gb856, 2, none⟩ (.slice Ao34 t853.length co34)).heap[gb839]? = some (.cells #[.int .i64 a1_0, .int .i64 a1_1] 26 (0, 0))) := ⟨by (with_reducible repeat (first | refine blk_drewN ?_ _ | refine blk_drew ?_ | refine blk_alloc ?_ _)); refine blk_far ?_ NB839_856.out _; (with_reducible repeat (first | refine blk_drewN ?_ _ | refine blk_drew ?_ | refine blk_alloc ?_ _)); refine blk_far ?_ NB839_856.out _; (with_reducible repeat (first | refine blk_drewN ?_ _ | refine blk_drew ?_ | refine blk_alloc ?_ _)); refine blk_far ?_ NB839_856.out _; (with_reducible repeat (first | refine blk_drewN ?_ _ | refine blk_drew ?_ | refine blk_alloc ?_ _)); exact BK839.out⟩
 have n4_ : Aside0 ((((w30.setCell ⟨gb856, 0, none⟩ (.int .i64 t851)).setCell ⟨gb856, 1, none⟩ (.int .i64 t852)).setCell ⟨gb856, 2, none⟩ (.slice Ao34 t853.length co34)).heap[gb856]? = some (.cells #[.int .i64 t851, .int .i64 t852, .slice Ao34 t853.length co34] 30 (0, 0))) := ⟨by (with_reducible repeat (first | refine blk_drewN ?_ _ | refine blk_drew ?_ | refine blk_alloc ?_ _)); refine blk_put (cs := #[.int .i64 t851, .int .i64 t852, .slice none 0 0]) ?_ 2 _ rfl; (with_reducible repeat (first | refine blk_drewN ?_ _ | refine blk_drew ?_ | refine blk_alloc ?_ _)); refine blk_put (cs := #[.int .i64 t851, .int .i64 0, .slice none 0 0]) ?_ 1 _ rfl; (with_reducible repeat (first | refine blk_drewN ?_ _ | refine blk_drew ?_ | refine blk_alloc ?_ _)); refine blk_put (cs := #[.int .i64 0, .int .i64 0, .slice none 0 0]) ?_ 0 _ rfl; (with_reducible repeat (first | refine blk_drewN ?_ _ | refine blk_drew ?_ | refine blk_alloc ?_ _)); exact BK856.out⟩
 have n5_ : Aside0 (Below w.heap.size w (((w30.setCell ⟨gb856, 0, none⟩ (.int .i64 t851)).setCell ⟨gb856, 1, none⟩ (.int .i64 t852)).setCell ⟨gb856, 2, none⟩ (.slice Ao34 t853.length co34))) := ⟨zaj1⟩
 (try clear HO845)
 (try clear HO855)
 (try clear BK838)
 (try clear BK839)
 (try clear BK856)
 (try clear HB)
 generalize (((w30.setCell ⟨gb856, 0, none⟩ (.int .i64 t851)).setCell ⟨gb856, 1, none⟩ (.int .i64 t852)).setCell ⟨gb856, 2, none⟩ (.slice Ao34 t853.length co34)) = w35 at n0_ n1_ n2_ n3_ n4_ n5_ ⊢
 have HO845 := n0_
 have HO855 := n1_
 have BK838 := n2_
 have BK839 := n3_
 have BK856 := n4_
 have HB := n5_
 clear n0_ n1_ n2_ n3_ n4_ n5_
 have n0_ := Aside0.mk (Kd.R_drew HO845.out)
 have n1_ := Aside0.mk (Kd.R_drew HO855.out)
 have n2_ := Aside0.mk (blk_drew BK838.out)
 have n3_ := Aside0.mk (blk_drew BK839.out)
 have n4_ := Aside0.mk (blk_drew BK856.out)
 have n5_ := Aside0.mk (below_drew1 HB.out)
 clear HO845
 clear HO855
 clear BK838
 clear BK839
 clear BK856
 clear HB
 have HO845 := n0_
 have HO855 := n1_
 have BK838 := n2_
 have BK839 := n3_
 have BK856 := n4_
 have HB := n5_
 clear n0_ n1_ n2_ n3_ n4_ n5_
 refine start_ (n := 12) (S := fun w' => w'.cell? ⟨gb856, 0, none⟩ = some (.int .i64 t851) ∧ w'.cell? ⟨gb856, 1, none⟩ = some (.int .i64 t852) ∧ w'.cell? ⟨gb856, 2, none⟩ = some (.slice Ao34 t853.length co34) ∧ w'.cell? ⟨gb839, 0, none⟩ = some (.int .i64 a1_0) ∧ w'.cell? ⟨gb839, 1, none⟩ = some (.int .i64 a1_1)) (ds := []) #[false, false, false, false, false, false, false, false, false, false, false, false] (by kernel_rfl) rfl rfl ⟨(blk_cell BK856.out 0).trans rfl, (blk_cell BK856.out 1).trans rfl, (blk_cell BK856.out 2).trans rfl, (blk_cell BK839.out 0).trans rfl, (blk_cell BK839.out 1).trans rfl⟩ (fun hHeld => ?_); refine with_tabW laws_FnExactFarthestFrom.tab7 laws_FnExactFarthestFrom.bits7 (fun HT_ HW_ => ?_)
 generalize w35.drew = w36 at HO845 HO855 BK838 BK839 BK856 HB hHeld ⊢
 refine pure_ (i := 3) (N := some 36) (v := ?_) (a' := ?_) #[false, false, false, true, false, false, false, false, false, false, false, false] rfl rfl (any_of HT_.out (by kernel_rfl)) (fun _ _ _ h => h) (Or.inl ⟨by rfl, ?_⟩) ?_ ?_
 rotate_left
 ·intro w'
  go_simp
  with_reducible rfl
 rotate_left
 ·simp only [Act.put, List.setIfInBounds_toArray, List.set_cons_zero, List.set_cons_succ, i64_w, i32_w]
  rfl
 refine take_ (i := 0) (N := some 33) (v := ?_) (a' := ?_) #[true, false, false, true, false, false, false, false, false, false, false, false] rfl rfl (take_ofW HT_.out HW_.out (by kernel_rfl)) (fun _ _ _ h => h) (Or.inl ⟨by rfl, ?_⟩) hHeld ?_ ?_
 rotate_left
 ·rintro w' ⟨s0, s1, s2, s3, s4⟩
  go_simp
  with_reducible rfl
 rotate_left
 ·simp only [Act.put, List.setIfInBounds_toArray, List.set_cons_zero, List.set_cons_succ, i64_w, i32_w]
  rfl
 refine take_ (i := 1) (N := some 34) (v := ?_) (a' := ?_) #[true, true, false, true, false, false, false, false, false, false, false, false] rfl rfl (take_ofW HT_.out HW_.out (by kernel_rfl)) (fun _ _ _ h => h) (Or.inl ⟨by rfl, ?_⟩) hHeld ?_ ?_
 rotate_left
 ·rintro w' ⟨s0, s1, s2, s3, s4⟩
  go_simp
  with_reducible rfl
 rotate_left
 ·simp only [Act.put, List.setIfInBounds_toArray, List.set_cons_zero, List.set_cons_succ, i64_w, i32_w]
  rfl
 refine one_ (i := 2) (N := some 35) #[true, true, true, true, false, false, false, false, false, false, false, false] rfl rfl (one_of HT_.out (by kernel_rfl)) (by decide) (fun K hK => ?_)
 refine goes_ Try.func18 (by kernel_rfl) rfl #[.agg #[.int .i64 a1_0, .int .i64 a1_1]] (by rfl) rfl rfl zaj6 ?_
 with_reducible refine (laws_toLeaper.calls a1_0 a1_1 t857 t858 _ A15.out).mono ?_
 rintro e w37 ⟨rfl, hb⟩
 refine ⟨_, rfl, ?_⟩
 have n0_ := Aside0.mk (Kd.R_below zaj11 hb)
 have n1_ := Aside0.mk (Kd.R_below zaj15 hb)
 have n2_ := Aside0.mk (blk_below (g := gb838) (o := .cells #[.int .i64 a0_0, .int .i64 a0_1, .slice A0_2 l0_2.length c0_2] 24 (0, 0)) zaj2 hb)
 have n3_ := Aside0.mk (blk_below (g := gb839) (o := .cells #[.int .i64 a1_0, .int .i64 a1_1] 26 (0, 0)) zaj5 hb)
 have n4_ := Aside0.mk (blk_below (g := gb856) (o := .cells #[.int .i64 t851, .int .i64 t852, .slice Ao34 t853.length co34] 30 (0, 0)) zaj7 hb)
 have n5_ := Aside0.mk (below_step zaj1 hb)
 clear HO845
 clear HO855
 clear BK838
 clear BK839
 clear BK856
 clear HB
 have HO845 := n0_
 have HO855 := n1_
 have BK838 := n2_
 have BK839 := n3_
 have BK856 := n4_
 have HB := n5_
 clear n0_ n1_ n2_ n3_ n4_ n5_
 (try clear hb)
 (try clear hb2)
 (try clear hk)
 (try clear hi)
 (try clear hna_)
 (try clear hnb_)
 refine hK.out _ _ ⟨(blk_cell BK856.out 0).trans rfl, (blk_cell BK856.out 1).trans rfl, (blk_cell BK856.out 2).trans rfl, (blk_cell BK839.out 0).trans rfl, (blk_cell BK839.out 1).trans rfl⟩ (fun hHeld => ?_)
 clear hK K
 refine norm_ (a' := ?_) ?_ ?_
 rotate_left
 ·show Act.put _ (some 35) _ = _
  simp only [Act.put, List.setIfInBounds_toArray, List.set_cons_zero, List.set_cons_succ, i64_w, i32_w]
  rfl
 refine one_ (i := 4) (N := some 37) #[true, true, true, true, true, false, false, false, false, false, false, false] rfl rfl (one_of HT_.out (by kernel_rfl)) (by decide) (fun K hK => ?_)
 refine goes_ Try.func37 (by kernel_rfl) rfl #[.agg #[.int .i64 t851, .int .i64 t852, .slice Ao34 t853.length co34], .agg #[.int .i64 t857, .int .i64 t858], .int .i64 a2] (by rfl) rfl rfl zaj6 ?_
 with_reducible refine (impl_FarthestFrom.calls k t851 t852 _ _ t853 t857 t858 a2 t859 t860 t861 _ ?side1 ?side2 A16.out).mono ?_
 (case side1 => repeat (first | exact (Kd.R_reads' HO855.out).2.2 | (with_reducible refine Kd.C_alloc ?_ _) | (with_reducible refine Kd.C_drewN ?_ _) | (with_reducible refine Kd.C_drew ?_)))
 (case side2 => exact (Kd.R_reads' HO855.out).2.1)
 rintro e w38 ⟨rfl, hb⟩
 refine ⟨_, rfl, ?_⟩
 have n0_ := Aside0.mk (Kd.R_below zaj11 hb)
 have n1_ := Aside0.mk (Kd.R_below zaj15 hb)
 have n2_ := Aside0.mk (blk_below (g := gb838) (o := .cells #[.int .i64 a0_0, .int .i64 a0_1, .slice A0_2 l0_2.length c0_2] 24 (0, 0)) zaj2 hb)
 have n3_ := Aside0.mk (blk_below (g := gb839) (o := .cells #[.int .i64 a1_0, .int .i64 a1_1] 26 (0, 0)) zaj5 hb)
 have n4_ := Aside0.mk (blk_below (g := gb856) (o := .cells #[.int .i64 t851, .int .i64 t852, .slice Ao34 t853.length co34] 30 (0, 0)) zaj7 hb)
 have n5_ := Aside0.mk (below_step zaj1 hb)
 clear HO845
 clear HO855
 clear BK838
 clear BK839
 clear BK856
 clear HB
 have HO845 := n0_
 have HO855 := n1_
 have BK838 := n2_
 have BK839 := n3_
 have BK856 := n4_
 have HB := n5_
 clear n0_ n1_ n2_ n3_ n4_ n5_
 (try clear hb)
 (try clear hb2)
 (try clear hk)
 (try clear hi)
 (try clear hna_)
 (try clear hnb_)
 refine hK.out _ _ ⟨(blk_cell BK856.out 0).trans rfl, (blk_cell BK856.out 1).trans rfl, (blk_cell BK856.out 2).trans rfl, (blk_cell BK839.out 0).trans rfl, (blk_cell BK839.out 1).trans rfl⟩ (fun hHeld => ?_)
 clear hK K
 refine norm_ (a' := ?_) ?_ ?_
 rotate_left
 ·show Act.put _ (some 37) _ = _
  simp only [Act.put, List.setIfInBounds_toArray, List.set_cons_zero, List.set_cons_succ, i64_w, i32_w]
  rfl
 refine pure_ (i := 5) (N := some 32) (v := ?_) (a' := ?_) #[true, true, true, true, true, true, false, false, false, false, false, false] rfl rfl (any_of HT_.out (by kernel_rfl)) (fun _ _ _ h => h) (Or.inl ⟨by rfl, ?_⟩) ?_ ?_
 rotate_left
 ·intro w'
  go_simp
  with_reducible rfl
 rotate_left
 ·simp only [Act.put, List.setIfInBounds_toArray, List.set_cons_zero, List.set_cons_succ, i64_w, i32_w]
  rfl
 refine pure_ (i := 6) (N := some 38) (v := ?_) (a' := ?_) #[true, true, true, true, true, true, true, false, false, false, false, false] rfl rfl (any_of HT_.out (by kernel_rfl)) (fun _ _ _ h => h) (Or.inl ⟨by rfl, ?_⟩) ?_ ?_
 rotate_left
 ·intro w'
  go_simp
  with_reducible rfl
 rotate_left
 ·simp only [Act.put, List.setIfInBounds_toArray, List.set_cons_zero, List.set_cons_succ, i64_w, i32_w]
  rfl
 refine pure_ (i := 7) (N := some 39) (v := ?_) (a' := ?_) #[true, true, true, true, true, true, true, true, false, false, false, false] rfl rfl (any_of HT_.out (by kernel_rfl)) (fun _ _ _ h => h) (Or.inl ⟨by rfl, ?_⟩) ?_ ?_
 rotate_left
 ·intro w'
  go_simp
  with_reducible rfl
 rotate_left
 ·simp only [Act.put, List.setIfInBounds_toArray, List.set_cons_zero, List.set_cons_succ, i64_w, i32_w]
  rfl
 refine pure_ (i := 8) (N := some 40) (v := ?_) (a' := ?_) #[true, true, true, true, true, true, true, true, true, false, false, false] rfl rfl (any_of HT_.out (by kernel_rfl)) (fun _ _ _ h => h) (Or.inl ⟨by rfl, ?_⟩) ?_ ?_
 rotate_left
 ·intro w'
  go_simp
  with_reducible rfl
 rotate_left
 ·simp only [Act.put, List.setIfInBounds_toArray, List.set_cons_zero, List.set_cons_succ, i64_w, i32_w]
  rfl
 refine pure_ (i := 9) (N := some 12) (v := ?_) (a' := ?_) #[true, true, true, true, true, true, true, true, true, true, false, false] rfl rfl (any_of HT_.out (by kernel_rfl)) (fun _ _ _ h => h) (Or.inl ⟨by rfl, ?_⟩) ?_ ?_
 rotate_left
 ·intro w'
  go_simp
  with_reducible rfl
 rotate_left
 ·simp only [Act.put, List.setIfInBounds_toArray, List.set_cons_zero, List.set_cons_succ, i64_w, i32_w]
  rfl
 refine pure_ (i := 10) (N := some 13) (v := ?_) (a' := ?_) #[true, true, true, true, true, true, true, true, true, true, true, false] rfl rfl (any_of HT_.out (by kernel_rfl)) (fun _ _ _ h => h) (Or.inl ⟨by rfl, ?_⟩) ?_ ?_
 rotate_left
 ·intro w'
  go_simp
  with_reducible rfl
 rotate_left
 ·simp only [Act.put, List.setIfInBounds_toArray, List.set_cons_zero, List.set_cons_succ, i64_w, i32_w]
  rfl
 refine pure_ (i := 11) (N := some 14) (v := ?_) (a' := ?_) #[true, true, true, true, true, true, true, true, true, true, true, true] rfl rfl (any_of HT_.out (by kernel_rfl)) (fun _ _ _ h => h) (Or.inl ⟨by rfl, ?_⟩) ?_ ?_
 rotate_left
 ·intro w'
  go_simp
  with_reducible rfl
 rotate_left
 ·simp only [Act.put, List.setIfInBounds_toArray, List.set_cons_zero, List.set_cons_succ, i64_w, i32_w]
  rfl
 refine done_ (done_of HT_.out (by kernel_rfl)) ?_
 go_upto_region 8 with (fail)
 go_cut [53] (fun v53 wc => ∃ (kq : Nat) (x53_16 : Bool), v53 = .bool x53_16 ∧ Aside0 (laws_FnExactFarthestFrom.j0 kq x53_16 a0_0 a0_1 l0_2 t851 t852 t853 = some r) ∧ Aside0 (kq ≤ k) ∧ Aside0 (Kd.R (Kd.int .i64) 3 wc w.heap.size (fun _ => True) (.slice Ao34 t853.length co34) t853) ∧ Aside0 (wc.heap[gb838]? = some (.cells #[.int .i64 a0_0, .int .i64 a0_1, (.slice A0_2 l0_2.length c0_2)] 24 (0, 0))) ∧ Aside0 (wc.heap[gb839]? = some (.cells #[.int .i64 a1_0, .int .i64 a1_1] 26 (0, 0))) ∧ Aside0 (wc.heap[gb856]? = some (.cells #[.int .i64 t851, .int .i64 t852, (.slice Ao34 t853.length co34)] 30 (0, 0))) ∧ Aside0 (Below w.heap.size w wc))
 case first =>
  have H := HC17.out
  clear HC17
  by_cases c39 : t859 = t848
  rotate_left
  ·rw [if_neg c39] at H
   have c39b0 : (t859 == t848) = false := beq_eq_false_iff_ne.mpr c39
   have c39b1 : (t859 != t848) = true := bne_iff_ne.mpr c39
   (first | rw [c39b0] | (simp only [i64_w, i32_w]; rw [c39b0]) | skip)
   have H' := Aside0.mk H
   clear H
   go_wp2
   go_meet
   case rel => exact ⟨_, (true), (by first | rfl | (simp; done) | (simp [*]; done)), H', ⟨by first | omega | exact Nat.le_refl _⟩, ⟨zaj14⟩, ⟨zaj2⟩, ⟨zaj5⟩, ⟨zaj7⟩, ⟨zaj1⟩⟩
  rw [if_pos c39] at H
  have c39b0 : (t859 == t848) = true := beq_iff_eq.mpr c39
  have c39b1 : (t859 != t848) = false := bne_eq_false_iff_eq.mpr c39
  clear c39
  (first | rw [c39b0] | (simp only [i64_w, i32_w]; rw [c39b0]) | skip)
  by_cases c40 : t860 = t849
  rotate_left
  ·rw [if_neg c40] at H
   have c40b0 : (t860 == t849) = false := beq_eq_false_iff_ne.mpr c40
   have c40b1 : (t860 != t849) = true := bne_iff_ne.mpr c40
   have H' := Aside0.mk H
   clear H
   go_wp2
   go_meet
   case rel => exact ⟨_, (true), (by first | rfl | (simp; done) | (simp [*]; done)), H', ⟨by first | omega | exact Nat.le_refl _⟩, ⟨zaj14⟩, ⟨zaj2⟩, ⟨zaj5⟩, ⟨zaj7⟩, ⟨zaj1⟩⟩
  rw [if_pos c40] at H
  have c40b0 : (t860 == t849) = true := beq_iff_eq.mpr c40
  have c40b1 : (t860 != t849) = false := bne_eq_false_iff_eq.mpr c40
  clear c40
  have H' := Aside0.mk H
  clear H
  go_wp2
  go_meet
  case rel => exact ⟨_, ((t861 != t850)), (by first | rfl | (simp; done) | (simp [*]; done)), H', ⟨by first | omega | exact Nat.le_refl _⟩, ⟨zaj14⟩, ⟨zaj2⟩, ⟨zaj5⟩, ⟨zaj7⟩, ⟨zaj1⟩⟩
 case rest =>
  clear HC17
  try clear c1; try clear c2; try clear p2; try clear c3; try clear c4; try clear c5; try clear c5b0; try clear c8; try clear c9; try clear c15; try clear c17; try clear c18; try clear c20; try clear c31; try clear c32; try clear c36; try clear c37; try clear c39; try clear c39b0; try clear c39b1; try clear c40; try clear c40b0; try clear c40b1; try clear hcz21_0; try clear hcz21_1; try clear hcz21_2; try clear hcz28_0; try clear hcz28_1; try clear hcz28_2; try clear hcz33_0; try clear hcz33_1; try clear hcz33_2; try clear hcz9_0; try clear hcz9_1; try clear hcz9_2; try clear hfz21_0; try clear hfz21_1
  try clear hfz21_2; try clear hfz28_0; try clear hfz28_1; try clear hfz28_2; try clear hfz33_0; try clear hfz33_1; try clear hfz33_2; try clear hfz9_0; try clear hfz9_1; try clear hfz9_2
  obtain ⟨kq, x53_16, rfl, HA, HJ16, HO_857002, BK838, BK839, BK856, HB⟩ := hcut
  cases kq with
  | zero => exact absurd HA.out (by simp [laws_FnExactFarthestFrom.j0])
  | succ kj16 =>
   have H := HA.out
   clear HA
   simp only [laws_FnExactFarthestFrom.j0] at H
   by_cases c41 : x53_16 = true
   ·subst c41
    have H1 : (some false) = some r := by rw [if_pos rfl] at H; exact H
    clear H
    have H := H1
    clear H1
    obtain rfl := Option.some.inj H
    go_wp2
    go_ret
    exact ⟨zaj13, zaj1⟩
   replace c41 := Bool.eq_false_iff.mpr c41
   subst c41
   have H1 : ((laws_toBoard.f kj16 a0_0 a0_1 l0_2).bind fun bt862 => ((laws_eqBoard.f kj16 t851 t852 t853 bt862.1 bt862.2.1 bt862.2.2).bind fun t867 => (if t867 = true then (some true) else (some false)))) = some r := by rw [if_neg (show ¬ (false = true) by decide)] at H; exact H
   clear H
   have H := H1
   clear H1
   replace H := Option.bind_eq_some_iff.mp H
   obtain ⟨⟨t862, t863, t864⟩, A420, H⟩ := H
   replace H : ((laws_eqBoard.f kj16 t851 t852 t853 t862 t863 t864).bind fun t867 => (if t867 = true then (some true) else (some false))) = some r := H
   have A42 := Aside0.mk A420
   clear A420
   replace H := Option.bind_eq_some_iff.mp H
   obtain ⟨t867, A430, H⟩ := H
   replace H : (if t867 = true then (some true) else (some false)) = some r := H
   have A43 := Aside0.mk A430
   clear A430
   by_cases c44 : t867 = true
   ·subst c44
    have H1 : (some true) = some r := by rw [if_pos rfl] at H; exact H
    clear H
    have H := H1
    clear H1
    obtain rfl := Option.some.inj H
    try go_wp2
    have n0_ := Aside0.mk (Kd.R_drew HO_857002.out)
    have n1_ := Aside0.mk (blk_drew BK838.out)
    have n2_ := Aside0.mk (blk_drew BK839.out)
    have n3_ := Aside0.mk (blk_drew BK856.out)
    have n4_ := Aside0.mk (below_drew1 HB.out)
    clear HO_857002
    clear BK838
    clear BK839
    clear BK856
    clear HB
    have HO_857002 := n0_
    have BK838 := n1_
    have BK839 := n2_
    have BK856 := n3_
    have HB := n4_
    clear n0_ n1_ n2_ n3_ n4_
    refine start_ (n := 5) (S := fun w' => w'.cell? ⟨gb856, 0, none⟩ = some (.int .i64 t851) ∧ w'.cell? ⟨gb856, 1, none⟩ = some (.int .i64 t852) ∧ w'.cell? ⟨gb856, 2, none⟩ = some (.slice Ao34 t853.length co34) ∧ w'.cell? ⟨gb838, 0, none⟩ = some (.int .i64 a0_0) ∧ w'.cell? ⟨gb838, 1, none⟩ = some (.int .i64 a0_1) ∧ w'.cell? ⟨gb838, 2, none⟩ = some (.slice A0_2 l0_2.length c0_2)) (ds := []) #[false, false, false, false, false] (by kernel_rfl) rfl rfl ⟨(blk_cell BK856.out 0).trans rfl, (blk_cell BK856.out 1).trans rfl, (blk_cell BK856.out 2).trans rfl, (blk_cell BK838.out 0).trans rfl, (blk_cell BK838.out 1).trans rfl, (blk_cell BK838.out 2).trans rfl⟩ (fun hHeld => ?_)
    generalize wc.drew = w45 at HO_857002 BK838 BK839 BK856 HB hHeld ⊢
    refine take_ (i := 0) (N := some 54) (v := ?_) (a' := ?_) #[true, false, false, false, false] rfl rfl (by kernel_rfl) (fun _ _ _ h => h) (Or.inl ⟨by rfl, ?_⟩) hHeld ?_ ?_
    rotate_left
    ·rintro w' ⟨s0, s1, s2, s3, s4, s5⟩
     go_simp
     with_reducible rfl
    rotate_left
    ·simp only [Act.put, List.setIfInBounds_toArray, List.set_cons_zero, List.set_cons_succ, i64_w, i32_w]
     rfl
    refine take_ (i := 1) (N := some 55) (v := ?_) (a' := ?_) #[true, true, false, false, false] rfl rfl (by kernel_rfl) (fun _ _ _ h => h) (Or.inl ⟨by rfl, ?_⟩) hHeld ?_ ?_
    rotate_left
    ·rintro w' ⟨s0, s1, s2, s3, s4, s5⟩
     go_simp
     with_reducible rfl
    rotate_left
    ·simp only [Act.put, List.setIfInBounds_toArray, List.set_cons_zero, List.set_cons_succ, i64_w, i32_w]
     rfl
    refine one_ (i := 2) (N := some 56) #[true, true, true, false, false] rfl rfl (by kernel_rfl) (by decide) (fun K hK => ?_)
    refine goes_ Try.func17 (by kernel_rfl) rfl #[.agg #[.int .i64 a0_0, .int .i64 a0_1, .slice A0_2 l0_2.length c0_2]] (by rfl) rfl rfl zaj6 ?_
    with_reducible refine (laws_toBoard.calls kj16 a0_0 a0_1 _ _ l0_2 t862 t863 t864 _ ?side1 ?side2 A42.out).mono ?_
    (case side1 => exact zaj8)
    (case side2 => exact HC0_2.out)
    rintro e w46 ⟨v865, rfl, ho0, hb⟩
    refine ⟨_, rfl, ?_⟩
    have n0_ := Aside0.mk (Kd.R_elder' zaj12 (Kd.R_base ho0) hb)
    have n1_ := Aside0.mk (Kd.R_lower (Kd.R_new' ho0 (Kd.R_lt zaj12)) (below_size zaj1))
    have n2_ := Aside0.mk (blk_below (g := gb838) (o := .cells #[.int .i64 a0_0, .int .i64 a0_1, .slice A0_2 l0_2.length c0_2] 24 (0, 0)) zaj2 hb)
    have n3_ := Aside0.mk (blk_below (g := gb839) (o := .cells #[.int .i64 a1_0, .int .i64 a1_1] 26 (0, 0)) zaj5 hb)
    have n4_ := Aside0.mk (blk_below (g := gb856) (o := .cells #[.int .i64 t851, .int .i64 t852, .slice Ao34 t853.length co34] 30 (0, 0)) zaj7 hb)
    have n5_ := Aside0.mk (below_step zaj1 hb)
    clear HO_857002
    clear BK838
    clear BK839
    clear BK856
    clear HB
    have HO_857002 := n0_
    have HO866 := n1_
    have BK838 := n2_
    have BK839 := n3_
    have BK856 := n4_
    have HB := n5_
    clear n0_ n1_ n2_ n3_ n4_ n5_
    (try clear hb)
    (try clear hb2)
    (try clear hk)
    (try clear hi)
    (try clear ho0)
    (try clear hna_)
    (try clear hnb_)
    obtain ⟨Ao47, co47, eo47⟩ := Kd.R_slice HO866.out
    (first | subst eo47 | (injection eo47 with f1_ f2_ f3_; have f4_ := f1_.symm; have f5_ := f3_.symm; clear f1_ f2_ f3_; subst f4_; subst f5_))
    refine hK.out _ _ ⟨(blk_cell BK856.out 0).trans rfl, (blk_cell BK856.out 1).trans rfl, (blk_cell BK856.out 2).trans rfl, (blk_cell BK838.out 0).trans rfl, (blk_cell BK838.out 1).trans rfl, (blk_cell BK838.out 2).trans rfl⟩ (fun hHeld => ?_)
    clear hK K
    refine norm_ (a' := ?_) ?_ ?_
    rotate_left
    ·show Act.put _ (some 56) _ = _
     simp only [Act.put, List.setIfInBounds_toArray, List.set_cons_zero, List.set_cons_succ, i64_w, i32_w]
     rfl
    refine one_ (i := 3) (N := some 57) #[true, true, true, true, false] rfl rfl (by kernel_rfl) (by decide) (fun K hK => ?_)
    refine goes_ Try.func21 (by kernel_rfl) rfl #[.agg #[.int .i64 t851, .int .i64 t852, .slice Ao34 t853.length co34], .agg #[.int .i64 t862, .int .i64 t863, .slice Ao47 t864.length co47]] (by rfl) rfl rfl zaj6 ?_
    with_reducible refine (laws_eqBoard.calls kj16 t851 t852 _ _ t853 t862 t863 _ _ t864 true _ ?side1 ?side2 ?side3 ?side4 A43.out).mono ?_
    (case side1 => exact zaj16)
    (case side2 => exact (Kd.R_reads' HO_857002.out).2.1)
    (case side3 => exact zaj17)
    (case side4 => exact (Kd.R_reads' HO866.out).2.1)
    rintro e w48 ⟨rfl, hb⟩
    refine ⟨_, rfl, ?_⟩
    have n0_ := Aside0.mk (Kd.R_below zaj12 hb)
    have n1_ := Aside0.mk (Kd.R_below (by (with_reducible repeat (first | apply Kd.R_alloc | apply Kd.R_drewN | apply Kd.R_drew)); exact HO866.out) hb)
    have n2_ := Aside0.mk (blk_below (g := gb838) (o := .cells #[.int .i64 a0_0, .int .i64 a0_1, .slice A0_2 l0_2.length c0_2] 24 (0, 0)) zaj2 hb)
    have n3_ := Aside0.mk (blk_below (g := gb839) (o := .cells #[.int .i64 a1_0, .int .i64 a1_1] 26 (0, 0)) zaj5 hb)
    have n4_ := Aside0.mk (blk_below (g := gb856) (o := .cells #[.int .i64 t851, .int .i64 t852, .slice Ao34 t853.length co34] 30 (0, 0)) zaj7 hb)
    have n5_ := Aside0.mk (below_step zaj1 hb)
    clear HO_857002
    clear HO866
    clear BK838
    clear BK839
    clear BK856
    clear HB
    have HO_857002 := n0_
    have HO866 := n1_
    have BK838 := n2_
    have BK839 := n3_
    have BK856 := n4_
    have HB := n5_
    clear n0_ n1_ n2_ n3_ n4_ n5_
    (try clear hb)
    (try clear hb2)
    (try clear hk)
    (try clear hi)
    (try clear hna_)
    (try clear hnb_)
    refine hK.out _ _ ⟨(blk_cell BK856.out 0).trans rfl, (blk_cell BK856.out 1).trans rfl, (blk_cell BK856.out 2).trans rfl, (blk_cell BK838.out 0).trans rfl, (blk_cell BK838.out 1).trans rfl, (blk_cell BK838.out 2).trans rfl⟩ (fun hHeld => ?_)
    clear hK K
    refine norm_ (a' := ?_) ?_ ?_
    rotate_left
    ·show Act.put _ (some 57) _ = _
     simp only [Act.put, List.setIfInBounds_toArray, List.set_cons_zero, List.set_cons_succ, i64_w, i32_w]
     rfl
    refine pure_ (i := 4) (N := some 58) (v := ?_) (a' := ?_) #[true, true, true, true, true] rfl rfl (by kernel_rfl) (fun _ _ _ h => h) (Or.inl ⟨by rfl, ?_⟩) ?_ ?_
    rotate_left
    ·intro w'
     go_simp
     with_reducible rfl
    rotate_left
    ·simp only [Act.put, List.setIfInBounds_toArray, List.set_cons_zero, List.set_cons_succ, i64_w, i32_w]
     rfl
    refine done_ (by kernel_rfl) ?_
    try go_wp2
    go_ret
    exact ⟨zaj13, zaj1⟩
   replace c44 := Bool.eq_false_iff.mpr c44
   subst c44
   have H1 : (some false) = some r := by rw [if_neg (show ¬ (false = true) by decide)] at H; exact H
   clear H
   have H := H1
   clear H1
   obtain rfl := Option.some.inj H
   try go_wp2
   have n0_ := Aside0.mk (Kd.R_drew HO_857002.out)
   have n1_ := Aside0.mk (blk_drew BK838.out)
   have n2_ := Aside0.mk (blk_drew BK839.out)
   have n3_ := Aside0.mk (blk_drew BK856.out)
   have n4_ := Aside0.mk (below_drew1 HB.out)
   clear HO_857002
   clear BK838
   clear BK839
   clear BK856
   clear HB
   have HO_857002 := n0_
   have BK838 := n1_
   have BK839 := n2_
   have BK856 := n3_
   have HB := n4_
   clear n0_ n1_ n2_ n3_ n4_
   refine start_ (n := 5) (S := fun w' => w'.cell? ⟨gb856, 0, none⟩ = some (.int .i64 t851) ∧ w'.cell? ⟨gb856, 1, none⟩ = some (.int .i64 t852) ∧ w'.cell? ⟨gb856, 2, none⟩ = some (.slice Ao34 t853.length co34) ∧ w'.cell? ⟨gb838, 0, none⟩ = some (.int .i64 a0_0) ∧ w'.cell? ⟨gb838, 1, none⟩ = some (.int .i64 a0_1) ∧ w'.cell? ⟨gb838, 2, none⟩ = some (.slice A0_2 l0_2.length c0_2)) (ds := []) #[false, false, false, false, false] (by kernel_rfl) rfl rfl ⟨(blk_cell BK856.out 0).trans rfl, (blk_cell BK856.out 1).trans rfl, (blk_cell BK856.out 2).trans rfl, (blk_cell BK838.out 0).trans rfl, (blk_cell BK838.out 1).trans rfl, (blk_cell BK838.out 2).trans rfl⟩ (fun hHeld => ?_)
   generalize wc.drew = w49 at HO_857002 BK838 BK839 BK856 HB hHeld ⊢
   refine take_ (i := 0) (N := some 54) (v := ?_) (a' := ?_) #[true, false, false, false, false] rfl rfl (by kernel_rfl) (fun _ _ _ h => h) (Or.inl ⟨by rfl, ?_⟩) hHeld ?_ ?_
   rotate_left
   ·rintro w' ⟨s0, s1, s2, s3, s4, s5⟩
    go_simp
    with_reducible rfl
   rotate_left
   ·simp only [Act.put, List.setIfInBounds_toArray, List.set_cons_zero, List.set_cons_succ, i64_w, i32_w]
    rfl
   refine take_ (i := 1) (N := some 55) (v := ?_) (a' := ?_) #[true, true, false, false, false] rfl rfl (by kernel_rfl) (fun _ _ _ h => h) (Or.inl ⟨by rfl, ?_⟩) hHeld ?_ ?_
   rotate_left
   ·rintro w' ⟨s0, s1, s2, s3, s4, s5⟩
    go_simp
    with_reducible rfl
   rotate_left
   ·simp only [Act.put, List.setIfInBounds_toArray, List.set_cons_zero, List.set_cons_succ, i64_w, i32_w]
    rfl
   refine one_ (i := 2) (N := some 56) #[true, true, true, false, false] rfl rfl (by kernel_rfl) (by decide) (fun K hK => ?_)
   refine goes_ Try.func17 (by kernel_rfl) rfl #[.agg #[.int .i64 a0_0, .int .i64 a0_1, .slice A0_2 l0_2.length c0_2]] (by rfl) rfl rfl zaj6 ?_
   with_reducible refine (laws_toBoard.calls kj16 a0_0 a0_1 _ _ l0_2 t862 t863 t864 _ ?side1 ?side2 A42.out).mono ?_
   (case side1 => exact zaj8)
   (case side2 => exact HC0_2.out)
   rintro e w50 ⟨v865, rfl, ho0, hb⟩
   refine ⟨_, rfl, ?_⟩
   have n0_ := Aside0.mk (Kd.R_elder' zaj12 (Kd.R_base ho0) hb)
   have n1_ := Aside0.mk (Kd.R_lower (Kd.R_new' ho0 (Kd.R_lt zaj12)) (below_size zaj1))
   have n2_ := Aside0.mk (blk_below (g := gb838) (o := .cells #[.int .i64 a0_0, .int .i64 a0_1, .slice A0_2 l0_2.length c0_2] 24 (0, 0)) zaj2 hb)
   have n3_ := Aside0.mk (blk_below (g := gb839) (o := .cells #[.int .i64 a1_0, .int .i64 a1_1] 26 (0, 0)) zaj5 hb)
   have n4_ := Aside0.mk (blk_below (g := gb856) (o := .cells #[.int .i64 t851, .int .i64 t852, .slice Ao34 t853.length co34] 30 (0, 0)) zaj7 hb)
   have n5_ := Aside0.mk (below_step zaj1 hb)
   clear HO_857002
   clear BK838
   clear BK839
   clear BK856
   clear HB
   have HO_857002 := n0_
   have HO866 := n1_
   have BK838 := n2_
   have BK839 := n3_
   have BK856 := n4_
   have HB := n5_
   clear n0_ n1_ n2_ n3_ n4_ n5_
   (try clear hb)
   (try clear hb2)
   (try clear hk)
   (try clear hi)
   (try clear ho0)
   (try clear hna_)
   (try clear hnb_)
   obtain ⟨Ao51, co51, eo51⟩ := Kd.R_slice HO866.out
   (first | subst eo51 | (injection eo51 with f1_ f2_ f3_; have f4_ := f1_.symm; have f5_ := f3_.symm; clear f1_ f2_ f3_; subst f4_; subst f5_))
   refine hK.out _ _ ⟨(blk_cell BK856.out 0).trans rfl, (blk_cell BK856.out 1).trans rfl, (blk_cell BK856.out 2).trans rfl, (blk_cell BK838.out 0).trans rfl, (blk_cell BK838.out 1).trans rfl, (blk_cell BK838.out 2).trans rfl⟩ (fun hHeld => ?_)
   clear hK K
   refine norm_ (a' := ?_) ?_ ?_
   rotate_left
   ·show Act.put _ (some 56) _ = _
    simp only [Act.put, List.setIfInBounds_toArray, List.set_cons_zero, List.set_cons_succ, i64_w, i32_w]
    rfl
   refine one_ (i := 3) (N := some 57) #[true, true, true, true, false] rfl rfl (by kernel_rfl) (by decide) (fun K hK => ?_)
   refine goes_ Try.func21 (by kernel_rfl) rfl #[.agg #[.int .i64 t851, .int .i64 t852, .slice Ao34 t853.length co34], .agg #[.int .i64 t862, .int .i64 t863, .slice Ao51 t864.length co51]] (by rfl) rfl rfl zaj6 ?_
   with_reducible refine (laws_eqBoard.calls kj16 t851 t852 _ _ t853 t862 t863 _ _ t864 false _ ?side1 ?side2 ?side3 ?side4 A43.out).mono ?_
   (case side1 => exact zaj16)
   (case side2 => exact (Kd.R_reads' HO_857002.out).2.1)
   (case side3 => exact zaj17)
   (case side4 => exact (Kd.R_reads' HO866.out).2.1)
   rintro e w52 ⟨rfl, hb⟩
   refine ⟨_, rfl, ?_⟩
   have n0_ := Aside0.mk (Kd.R_below zaj12 hb)
   have n1_ := Aside0.mk (Kd.R_below (by (with_reducible repeat (first | apply Kd.R_alloc | apply Kd.R_drewN | apply Kd.R_drew)); exact HO866.out) hb)
   have n2_ := Aside0.mk (blk_below (g := gb838) (o := .cells #[.int .i64 a0_0, .int .i64 a0_1, .slice A0_2 l0_2.length c0_2] 24 (0, 0)) zaj2 hb)
   have n3_ := Aside0.mk (blk_below (g := gb839) (o := .cells #[.int .i64 a1_0, .int .i64 a1_1] 26 (0, 0)) zaj5 hb)
   have n4_ := Aside0.mk (blk_below (g := gb856) (o := .cells #[.int .i64 t851, .int .i64 t852, .slice Ao34 t853.length co34] 30 (0, 0)) zaj7 hb)
   have n5_ := Aside0.mk (below_step zaj1 hb)
   clear HO_857002
   clear HO866
   clear BK838
   clear BK839
   clear BK856
   clear HB
   have HO_857002 := n0_
   have HO866 := n1_
   have BK838 := n2_
   have BK839 := n3_
   have BK856 := n4_
   have HB := n5_
   clear n0_ n1_ n2_ n3_ n4_ n5_
   (try clear hb)
   (try clear hb2)
   (try clear hk)
   (try clear hi)
   (try clear hna_)
   (try clear hnb_)
   refine hK.out _ _ ⟨(blk_cell BK856.out 0).trans rfl, (blk_cell BK856.out 1).trans rfl, (blk_cell BK856.out 2).trans rfl, (blk_cell BK838.out 0).trans rfl, (blk_cell BK838.out 1).trans rfl, (blk_cell BK838.out 2).trans rfl⟩ (fun hHeld => ?_)
   clear hK K
   refine norm_ (a' := ?_) ?_ ?_
   rotate_left
   ·show Act.put _ (some 57) _ = _
    simp only [Act.put, List.setIfInBounds_toArray, List.set_cons_zero, List.set_cons_succ, i64_w, i32_w]
    rfl
   refine pure_ (i := 4) (N := some 58) (v := ?_) (a' := ?_) #[true, true, true, true, true] rfl rfl (by kernel_rfl) (fun _ _ _ h => h) (Or.inl ⟨by rfl, ?_⟩) ?_ ?_
   rotate_left
   ·intro w'
    go_simp
    with_reducible rfl
   rotate_left
   ·simp only [Act.put, List.setIfInBounds_toArray, List.set_cons_zero, List.set_cons_succ, i64_w, i32_w]
    rfl
   refine done_ (by kernel_rfl) ?_
   try go_wp2
   go_ret
   exact ⟨zaj13, zaj1⟩

end Go.Proofs.Ythoklbeenjppbaa.Q

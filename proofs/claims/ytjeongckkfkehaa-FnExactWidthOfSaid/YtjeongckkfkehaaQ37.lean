/- Written by a program of this session: functions of the translation as plain Lean functions, each with a proof that the call does what the plain function says; the conditions stand in each theorem. -/
import Derived.Test.YtjeongckkfkehaaQ0
import Derived.Test.YtjeongckkfkehaaQ1
import Derived.Test.YtjeongckkfkehaaQ2
import Derived.Test.YtjeongckkfkehaaQ5
import Derived.Test.YtjeongckkfkehaaQ35
import Derived.Test.YtjeongckkfkehaaQ36
namespace Go.Proofs.Ytjeongckkfkehaa.Q
open Go.RowKit Go.Proofs.YtjeongckkfkehaaW.PrintWords Go.Proofs.YtjeongckkfkehaaW.PrintLast Go.Proofs.YtjeongckkfkehaaW.PrintMore
attribute [local go_sem] max2_int min2_int max_two min_two max_three min_three max_four min_four   -- for this text's walks alone
set_option linter.unusedVariables false
set_option linter.unusedSimpArgs false

theorem zal1 {p : Prop} (h : p := by repeat (first | (with_reducible first | exact HB.out | apply below_alloc | apply pw_below_drewN | apply below_drew1 | refine below_set ?_ GE1077.out | refine below_set ?_ GE1078.out | refine below_set ?_ GE1094.out) | exact HB.out)) : p := h
theorem zal2 {p : Prop} (h : p := by (with_reducible repeat (first | refine blk_drewN ?_ _ | refine blk_drew ?_ | refine blk_alloc ?_ _)); exact BK1077.out) : p := h
theorem zal3 {p : Prop} (h : p := by repeat (first | (with_reducible first | exact HB.out | apply below_alloc | apply pw_below_drewN | apply below_drew1 | refine below_set ?_ GE1077.out | refine below_set ?_ GE1078.out) | exact HB.out)) : p := h
theorem zal4 {p : Prop} (h : p := by (with_reducible repeat (first | refine blk_drewN ?_ _ | refine blk_drew ?_ | refine blk_alloc ?_ _)); exact BK1078.out) : p := h
theorem zal6 {p : Prop} (h : p := by (try simp only [List.map_toArray, List.map_cons, List.map_nil]); first | done | rfl | (simp only [List.length_drop, List.length_take]; rfl)) : p := h
theorem zal7 {p : Prop} (h : p := by repeat (first | exact (Kd.C_below HR0_2.out HB.out) | (with_reducible refine Kd.C_alloc ?_ _) | (with_reducible refine Kd.C_drewN ?_ _) | (with_reducible refine Kd.C_drew ?_))) : p := h
theorem zal8 {p : Prop} (h : p := by repeat (first | (with_reducible first | exact HB.out | apply below_alloc | apply pw_below_drewN | apply below_drew1 | refine below_set ?_ GE1077.out) | exact HB.out)) : p := h
theorem zal9 {p : Prop} (h : p := by (with_reducible repeat (first | refine blk_drewN ?_ _ | refine blk_drew ?_ | refine blk_alloc ?_ _)); exact BK1094.out) : p := h
theorem zal10 {p : Prop} (h : p := by repeat (first | (with_reducible first | exact HB.out | apply below_alloc | apply pw_below_drewN | apply below_drew1) | exact HB.out)) : p := h
theorem zal11 {p : Prop} (h : p := by (with_reducible repeat (first | apply Kd.R_alloc | apply Kd.R_drewN | apply Kd.R_drew)); exact HO1084.out) : p := h
theorem zal12 {p : Prop} (h : p := by (with_reducible repeat (first | apply Kd.R_alloc | apply Kd.R_drewN | apply Kd.R_drew)); exact HO_1095002.out) : p := h
theorem zal13 {p : Prop} (h : p := by first | rfl | (simp [errW_none, errW_some] <;> rfl) | (simp [*, errW_none, errW_some] <;> rfl)) : p := h
theorem zal14 {p : Prop} (h : p := by (with_reducible repeat (first | apply Kd.R_alloc | apply Kd.R_drewN | apply Kd.R_drew)); exact HO1093.out) : p := h
theorem zal15 {p : Prop} (h : p := by repeat (first | exact (Kd.R_reads' HO_1095002.out).2.2 | (with_reducible refine Kd.C_alloc ?_ _) | (with_reducible refine Kd.C_drewN ?_ _) | (with_reducible refine Kd.C_drew ?_))) : p := h
theorem zal16 {p : Prop} (h : p := by repeat (first | exact (Kd.R_reads' HO1103.out).2.2 | (with_reducible refine Kd.C_alloc ?_ _) | (with_reducible refine Kd.C_drewN ?_ _) | (with_reducible refine Kd.C_drew ?_))) : p := h
theorem zal17 {p : Prop} (h : p := by (with_reducible repeat (first | apply Kd.R_alloc | apply Kd.R_drewN | apply Kd.R_drew)); exact Kd.R_mono HO1093.out (fun _ hk => trivial)) : p := h
theorem zal18 {p : Prop} (h : p := by rw [hg]; exact Nat.ne_of_lt (blk_lt (g := gb1077) (o := .cells #[.int .i64 a0_0, .int .i64 a0_1, .slice A0_2 l0_2.length c0_2] 24 (0, 0)) zal2)) : p := h
theorem zal19 {p : Prop} (h : p := by rw [hg]; exact Nat.ne_of_gt (blk_lt (g := gb1077) (o := .cells #[.int .i64 a0_0, .int .i64 a0_1, .slice A0_2 l0_2.length c0_2] 24 (0, 0)) zal2)) : p := h
/-! ### laws_FnExactWidthOf: function 10 -/
def laws_FnExactWidthOf.j0 : Nat → Bool → Int → Int → List Int → Int → Int → List Int → Option (Bool)
 | 0, _, _, _, _, _, _, _ => none
 | k + 1, x40, x1078000, x1078001, x1078002, x1095000, x1095001, x1095002 => if x40 = true then (some false) else ((laws_toBoard.f k x1078000 x1078001 x1078002).bind fun bt1099 => ((laws_eqBoard.f k x1095000 x1095001 x1095002 bt1099.1 bt1099.2.1 bt1099.2.2).bind fun t1104 => (if t1104 = true then (some true) else (some false))))
def laws_FnExactWidthOf.f (k : Nat) (a0_0 : Int) (a0_1 : Int) (l0_2 : List Int) (a1_0 : Int) (a1_1 : Int) : Option (Bool) := (laws_szBoard.f a0_0 a0_1 l0_2 1048576).bind fun t1079 => (if t1079 < 0 then (some true) else ((laws_toBoard.f k a0_0 a0_1 l0_2).bind fun bt1080 => ((laws_toLeaper.f a1_0 a1_1).bind fun bt1085 => ((spec_WidthOf.f k bt1080.1 bt1080.2.1 bt1080.2.2 bt1085.1 bt1085.2).bind fun bt1087 => ((laws_toBoard.f k a0_0 a0_1 l0_2).bind fun bt1089 => ((laws_toLeaper.f a1_0 a1_1).bind fun bt1095 => ((impl_WidthOf.f k bt1089.1 bt1089.2.1 bt1089.2.2 bt1095.1 bt1095.2).bind fun bt1097 => (if bt1097.1 = bt1087.1 then (laws_FnExactWidthOf.j0 k (bt1097.2 != bt1087.2) a0_0 a0_1 l0_2 bt1089.1 bt1089.2.1 bt1089.2.2) else (laws_FnExactWidthOf.j0 k true a0_0 a0_1 l0_2 bt1089.1 bt1089.2.1 bt1089.2.2)))))))))
def laws_FnExactWidthOf.T5 : Bool × List (List Nat × List Nat) := (true, [([], []), ([0], [0]), ([], []), ([2, 1], [2]), ([1, 3, 3], [1, 3]), ([4], [4]), ([5], [5]), ([5], [5]), ([6, 4, 0, 1, 2, 3, 4, 5, 6], [6]), ([7, 8, 0, 1, 2, 3, 4, 5, 6, 7, 8], [7])])
def laws_FnExactWidthOf.B5 : List Nat := [0, 1, 0, 7, 15, 31, 63, 63, 127, 511]
theorem laws_FnExactWidthOf.tab5 : rtab .any (opsOf Try.f10 5) = laws_FnExactWidthOf.T5 := by kernel_rfl
theorem laws_FnExactWidthOf.bits5 : waitsOk laws_FnExactWidthOf.T5.2 laws_FnExactWidthOf.B5 = true := by kernel_rfl
def laws_FnExactWidthOf.T7 : Bool × List (List Nat × List Nat) := (true, [([], []), ([], []), ([1], [1]), ([0, 2, 2], [0, 2]), ([3], [3]), ([4], [4]), ([4], [4]), ([5, 3, 0, 1, 2, 3, 4, 5], [5]), ([6, 7, 0, 1, 2, 3, 4, 5, 6, 7], [6])])
def laws_FnExactWidthOf.B7 : List Nat := [0, 0, 2, 7, 15, 31, 31, 63, 255]
theorem laws_FnExactWidthOf.tab7 : rtab .any (opsOf Try.f10 7) = laws_FnExactWidthOf.T7 := by kernel_rfl
theorem laws_FnExactWidthOf.bits7 : waitsOk laws_FnExactWidthOf.T7.2 laws_FnExactWidthOf.B7 = true := by kernel_rfl
set_option maxHeartbeats 8000000 in
set_option maxRecDepth 100000 in
theorem laws_FnExactWidthOf.calls (k : Nat) (a0_0 : Int) (a0_1 : Int) (A0_2 : Option Addr) (c0_2 : Nat) (l0_2 : List Int) (a1_0 : Int) (a1_1 : Int) (r : Bool) (w : World) (hr0_2 : Kd.C (Kd.int .i64) w A0_2 l0_2.length l0_2) (hc0_2 : l0_2.length ≤ c0_2) (h : laws_FnExactWidthOf.f k a0_0 a0_1 l0_2 a1_0 a1_1 = some r) :
  Calls Try.prog 10 #[.agg #[.int .i64 a0_0, .int .i64 a0_1, .slice A0_2 l0_2.length c0_2], .agg #[.int .i64 a1_0, .int .i64 a1_1]] w fun e w' => e = .returned (.bool r) ∧ Below w.heap.size w w' := by
 have hu24 := Try.underlying24
 have hu26 := Try.underlying26
 have hu30 := Try.underlying30
 have HR0_2 := Aside0.mk hr0_2
 have HC0_2 := Aside0.mk hc0_2
 clear hr0_2 hc0_2
 have HB := Aside0.mk (Below.refl w.heap.size w)
 have H : ((laws_szBoard.f a0_0 a0_1 l0_2 1048576).bind fun t1079 => (if t1079 < 0 then (some true) else ((laws_toBoard.f k a0_0 a0_1 l0_2).bind fun bt1080 => ((laws_toLeaper.f a1_0 a1_1).bind fun bt1085 => ((spec_WidthOf.f k bt1080.1 bt1080.2.1 bt1080.2.2 bt1085.1 bt1085.2).bind fun bt1087 => ((laws_toBoard.f k a0_0 a0_1 l0_2).bind fun bt1089 => ((laws_toLeaper.f a1_0 a1_1).bind fun bt1095 => ((impl_WidthOf.f k bt1089.1 bt1089.2.1 bt1089.2.2 bt1095.1 bt1095.2).bind fun bt1097 => (if bt1097.1 = bt1087.1 then (laws_FnExactWidthOf.j0 k (bt1097.2 != bt1087.2) a0_0 a0_1 l0_2 bt1089.1 bt1089.2.1 bt1089.2.2) else (laws_FnExactWidthOf.j0 k true a0_0 a0_1 l0_2 bt1089.1 bt1089.2.1 bt1089.2.2)))))))))) = some r := h
 clear h
 replace H := Option.bind_eq_some_iff.mp H
 obtain ⟨t1079, A30, H⟩ := H
 replace H : (if t1079 < 0 then (some true) else ((laws_toBoard.f k a0_0 a0_1 l0_2).bind fun bt1080 => ((laws_toLeaper.f a1_0 a1_1).bind fun bt1085 => ((spec_WidthOf.f k bt1080.1 bt1080.2.1 bt1080.2.2 bt1085.1 bt1085.2).bind fun bt1087 => ((laws_toBoard.f k a0_0 a0_1 l0_2).bind fun bt1089 => ((laws_toLeaper.f a1_0 a1_1).bind fun bt1095 => ((impl_WidthOf.f k bt1089.1 bt1089.2.1 bt1089.2.2 bt1095.1 bt1095.2).bind fun bt1097 => (if bt1097.1 = bt1087.1 then (laws_FnExactWidthOf.j0 k (bt1097.2 != bt1087.2) a0_0 a0_1 l0_2 bt1089.1 bt1089.2.1 bt1089.2.2) else (laws_FnExactWidthOf.j0 k true a0_0 a0_1 l0_2 bt1089.1 bt1089.2.1 bt1089.2.2))))))))) = some r := H
 have A3 := Aside0.mk A30
 clear A30
 by_cases c4 : t1079 < 0
 ·rw [if_pos c4] at H
  have c4b0 : decide (t1079 < 0) = true := decide_eq_true c4
  clear c4
  obtain rfl := Option.some.inj H
  go_enter Try.func10, Try.ntmps10
  go_wp2_with (first | ((with_reducible refine gate_dst (N := 2) rfl ?_); refine box_event ?hg (N := 2) ?hd (cs := #[.int .i64 a0_0, .int .i64 a0_1, .slice A0_2 l0_2.length c0_2]) (t := 24) ?hr ?_; (case hd => rfl); (case hg => rfl); (case hr => first | (go_simp; done) | (go_simp; rfl)); intro gb1077 hg w5 hbox hb; have n0_ := Aside0.mk (below_step zal10 hb); have n1_ := Aside0.mk (hbox); have n2_ := Aside0.mk ((by rw [hg]; exact (below_size zal10) : w.heap.size ≤ gb1077)); have n3_ := Aside0.mk ((by rw [hg]; exact (below_size zal10) : w.heap.size ≤ gb1077)); clear HB; have HB := n0_; have BK1077 := n1_; have GW1077 := n2_; have GE1077 := n3_; clear n0_ n1_ n2_ n3_; clear hb hbox hg) | ((with_reducible refine gate_dst (N := 3) rfl ?_); refine box_event ?hg (N := 3) ?hd (cs := #[.int .i64 a1_0, .int .i64 a1_1]) (t := 26) ?hr ?_; (case hd => rfl); (case hg => rfl); (case hr => first | (go_simp; done) | (go_simp; rfl)); intro gb1078 hg w6 hbox hb; have n0_ := Aside0.mk (blk_below (g := gb1077) (o := .cells #[.int .i64 a0_0, .int .i64 a0_1, .slice A0_2 l0_2.length c0_2] 24 (0, 0)) zal2 hb); have n1_ := Aside0.mk (below_step zal8 hb); have n2_ := Aside0.mk (hbox); have n3_ := Aside0.mk ((by rw [hg]; exact (below_size zal8) : w.heap.size ≤ gb1078)); have n4_ := Aside0.mk ((by rw [hg]; exact (below_size zal8) : w.heap.size ≤ gb1078)); have n5_ := Aside0.mk ((zal18 : gb1077 ≠ gb1078)); have n6_ := Aside0.mk ((zal19 : gb1078 ≠ gb1077)); clear BK1077; clear HB; have BK1077 := n0_; have HB := n1_; have BK1078 := n2_; have GW1078 := n3_; have GE1078 := n4_; have NB1077_1078 := n5_; have NB1078_1077 := n6_; clear n0_ n1_ n2_ n3_ n4_ n5_ n6_; clear hb hbox hg; have hnb7 := NB1077_1078.out; have hnc7 := NB1078_1077.out; have hcz8_0 : w6.cell? ⟨gb1077, 0, none⟩ = some (.int .i64 a0_0) := (blk_cell BK1077.out 0).trans rfl; have hcz8_1 : w6.cell? ⟨gb1077, 1, none⟩ = some (.int .i64 a0_1) := (blk_cell BK1077.out 1).trans rfl; have hcz8_2 : w6.cell? ⟨gb1077, 2, none⟩ = some (.slice A0_2 l0_2.length c0_2) := (blk_cell BK1077.out 2).trans rfl; have hfz8_0 := blk_frozen BK1077.out 0; have hfz8_1 := blk_frozen BK1077.out 1; have hfz8_2 := blk_frozen BK1077.out 2) | ((with_reducible refine gate_callee (f := 15) rfl ?_); refine goesL_ (some 13) rfl rfl Try.func15 (by kernel_rfl) rfl #[.agg #[.int .i64 a0_0, .int .i64 a0_1, .slice A0_2 l0_2.length c0_2], .int .i64 1048576] rfl zal6 ?_; (with_reducible refine (laws_szBoard.calls a0_0 a0_1 _ _ l0_2 1048576 t1079 _ ?side1 ?side2 A3.out).mono ?_); (case side1 => exact zal7); (case side2 => exact HC0_2.out); rintro e w9 ⟨rfl, hb⟩; refine ⟨_, rfl, ?_⟩; have n0_ := Aside0.mk (blk_below (g := gb1077) (o := .cells #[.int .i64 a0_0, .int .i64 a0_1, .slice A0_2 l0_2.length c0_2] 24 (0, 0)) zal2 hb); have n1_ := Aside0.mk (blk_below (g := gb1078) (o := .cells #[.int .i64 a1_0, .int .i64 a1_1] 26 (0, 0)) zal4 hb); have n2_ := Aside0.mk (below_step zal3 hb); clear BK1077; clear BK1078; clear HB; have BK1077 := n0_; have BK1078 := n1_; have HB := n2_; clear n0_ n1_ n2_; (try clear hb); (try clear hb2); (try clear hk); (try clear hi); (try clear hna_); (try clear hnb_)))
  go_ret
  exact ⟨zal13, zal3⟩
 rw [if_neg c4] at H
 have c4b0 : decide (t1079 < 0) = false := decide_eq_false c4
 clear c4
 replace H := Option.bind_eq_some_iff.mp H
 obtain ⟨⟨t1080, t1081, t1082⟩, A100, H⟩ := H
 replace H : ((laws_toLeaper.f a1_0 a1_1).bind fun bt1085 => ((spec_WidthOf.f k t1080 t1081 t1082 bt1085.1 bt1085.2).bind fun bt1087 => ((laws_toBoard.f k a0_0 a0_1 l0_2).bind fun bt1089 => ((laws_toLeaper.f a1_0 a1_1).bind fun bt1095 => ((impl_WidthOf.f k bt1089.1 bt1089.2.1 bt1089.2.2 bt1095.1 bt1095.2).bind fun bt1097 => (if bt1097.1 = bt1087.1 then (laws_FnExactWidthOf.j0 k (bt1097.2 != bt1087.2) a0_0 a0_1 l0_2 bt1089.1 bt1089.2.1 bt1089.2.2) else (laws_FnExactWidthOf.j0 k true a0_0 a0_1 l0_2 bt1089.1 bt1089.2.1 bt1089.2.2))))))) = some r := H
 have A10 := Aside0.mk A100
 clear A100
 replace H := Option.bind_eq_some_iff.mp H
 obtain ⟨⟨t1085, t1086⟩, A110, H⟩ := H
 replace H : ((spec_WidthOf.f k t1080 t1081 t1082 t1085 t1086).bind fun bt1087 => ((laws_toBoard.f k a0_0 a0_1 l0_2).bind fun bt1089 => ((laws_toLeaper.f a1_0 a1_1).bind fun bt1095 => ((impl_WidthOf.f k bt1089.1 bt1089.2.1 bt1089.2.2 bt1095.1 bt1095.2).bind fun bt1097 => (if bt1097.1 = bt1087.1 then (laws_FnExactWidthOf.j0 k (bt1097.2 != bt1087.2) a0_0 a0_1 l0_2 bt1089.1 bt1089.2.1 bt1089.2.2) else (laws_FnExactWidthOf.j0 k true a0_0 a0_1 l0_2 bt1089.1 bt1089.2.1 bt1089.2.2)))))) = some r := H
 have A11 := Aside0.mk A110
 clear A110
 replace H := Option.bind_eq_some_iff.mp H
 obtain ⟨⟨t1087, t1088⟩, A120, H⟩ := H
 replace H : ((laws_toBoard.f k a0_0 a0_1 l0_2).bind fun bt1089 => ((laws_toLeaper.f a1_0 a1_1).bind fun bt1095 => ((impl_WidthOf.f k bt1089.1 bt1089.2.1 bt1089.2.2 bt1095.1 bt1095.2).bind fun bt1097 => (if bt1097.1 = t1087 then (laws_FnExactWidthOf.j0 k (bt1097.2 != t1088) a0_0 a0_1 l0_2 bt1089.1 bt1089.2.1 bt1089.2.2) else (laws_FnExactWidthOf.j0 k true a0_0 a0_1 l0_2 bt1089.1 bt1089.2.1 bt1089.2.2))))) = some r := H
 have A12 := Aside0.mk A120
 clear A120
 replace H := Option.bind_eq_some_iff.mp H
 obtain ⟨⟨t1089, t1090, t1091⟩, A130, H⟩ := H
 replace H : ((laws_toLeaper.f a1_0 a1_1).bind fun bt1095 => ((impl_WidthOf.f k t1089 t1090 t1091 bt1095.1 bt1095.2).bind fun bt1097 => (if bt1097.1 = t1087 then (laws_FnExactWidthOf.j0 k (bt1097.2 != t1088) a0_0 a0_1 l0_2 t1089 t1090 t1091) else (laws_FnExactWidthOf.j0 k true a0_0 a0_1 l0_2 t1089 t1090 t1091)))) = some r := H
 have A13 := Aside0.mk A130
 clear A130
 replace H := Option.bind_eq_some_iff.mp H
 obtain ⟨⟨t1095, t1096⟩, A140, H⟩ := H
 replace H : ((impl_WidthOf.f k t1089 t1090 t1091 t1095 t1096).bind fun bt1097 => (if bt1097.1 = t1087 then (laws_FnExactWidthOf.j0 k (bt1097.2 != t1088) a0_0 a0_1 l0_2 t1089 t1090 t1091) else (laws_FnExactWidthOf.j0 k true a0_0 a0_1 l0_2 t1089 t1090 t1091))) = some r := H
 have A14 := Aside0.mk A140
 clear A140
 replace H := Option.bind_eq_some_iff.mp H
 obtain ⟨⟨t1097, t1098⟩, A150, H⟩ := H
 replace H : (if t1097 = t1087 then (laws_FnExactWidthOf.j0 k (t1098 != t1088) a0_0 a0_1 l0_2 t1089 t1090 t1091) else (laws_FnExactWidthOf.j0 k true a0_0 a0_1 l0_2 t1089 t1090 t1091)) = some r := H
 have A15 := Aside0.mk A150
 clear A150
 have HC16 := Aside0.mk H
 clear H
 go_enter Try.func10, Try.ntmps10
 try go_wp2_with (first | ((with_reducible refine gate_dst (N := 2) rfl ?_); refine box_event ?hg (N := 2) ?hd (cs := #[.int .i64 a0_0, .int .i64 a0_1, .slice A0_2 l0_2.length c0_2]) (t := 24) ?hr ?_; (case hd => rfl); (case hg => rfl); (case hr => first | (go_simp; done) | (go_simp; rfl)); intro gb1077 hg w17 hbox hb; have n0_ := Aside0.mk (below_step zal10 hb); have n1_ := Aside0.mk (hbox); have n2_ := Aside0.mk ((by rw [hg]; exact (below_size zal10) : w.heap.size ≤ gb1077)); have n3_ := Aside0.mk ((by rw [hg]; exact (below_size zal10) : w.heap.size ≤ gb1077)); clear HB; have HB := n0_; have BK1077 := n1_; have GW1077 := n2_; have GE1077 := n3_; clear n0_ n1_ n2_ n3_; clear hb hbox hg) | ((with_reducible refine gate_dst (N := 3) rfl ?_); refine box_event ?hg (N := 3) ?hd (cs := #[.int .i64 a1_0, .int .i64 a1_1]) (t := 26) ?hr ?_; (case hd => rfl); (case hg => rfl); (case hr => first | (go_simp; done) | (go_simp; rfl)); intro gb1078 hg w18 hbox hb; have n0_ := Aside0.mk (blk_below (g := gb1077) (o := .cells #[.int .i64 a0_0, .int .i64 a0_1, .slice A0_2 l0_2.length c0_2] 24 (0, 0)) zal2 hb); have n1_ := Aside0.mk (below_step zal8 hb); have n2_ := Aside0.mk (hbox); have n3_ := Aside0.mk ((by rw [hg]; exact (below_size zal8) : w.heap.size ≤ gb1078)); have n4_ := Aside0.mk ((by rw [hg]; exact (below_size zal8) : w.heap.size ≤ gb1078)); have n5_ := Aside0.mk ((zal18 : gb1077 ≠ gb1078)); have n6_ := Aside0.mk ((zal19 : gb1078 ≠ gb1077)); clear BK1077; clear HB; have BK1077 := n0_; have HB := n1_; have BK1078 := n2_; have GW1078 := n3_; have GE1078 := n4_; have NB1077_1078 := n5_; have NB1078_1077 := n6_; clear n0_ n1_ n2_ n3_ n4_ n5_ n6_; clear hb hbox hg; have hnb19 := NB1077_1078.out; have hnc19 := NB1078_1077.out; have hcz20_0 : w18.cell? ⟨gb1077, 0, none⟩ = some (.int .i64 a0_0) := (blk_cell BK1077.out 0).trans rfl; have hcz20_1 : w18.cell? ⟨gb1077, 1, none⟩ = some (.int .i64 a0_1) := (blk_cell BK1077.out 1).trans rfl; have hcz20_2 : w18.cell? ⟨gb1077, 2, none⟩ = some (.slice A0_2 l0_2.length c0_2) := (blk_cell BK1077.out 2).trans rfl; have hfz20_0 := blk_frozen BK1077.out 0; have hfz20_1 := blk_frozen BK1077.out 1; have hfz20_2 := blk_frozen BK1077.out 2) | ((with_reducible refine gate_callee (f := 15) rfl ?_); refine goesL_ (some 13) rfl rfl Try.func15 (by kernel_rfl) rfl #[.agg #[.int .i64 a0_0, .int .i64 a0_1, .slice A0_2 l0_2.length c0_2], .int .i64 1048576] rfl zal6 ?_; (with_reducible refine (laws_szBoard.calls a0_0 a0_1 _ _ l0_2 1048576 t1079 _ ?side1 ?side2 A3.out).mono ?_); (case side1 => exact zal7); (case side2 => exact HC0_2.out); rintro e w21 ⟨rfl, hb⟩; refine ⟨_, rfl, ?_⟩; have n0_ := Aside0.mk (blk_below (g := gb1077) (o := .cells #[.int .i64 a0_0, .int .i64 a0_1, .slice A0_2 l0_2.length c0_2] 24 (0, 0)) zal2 hb); have n1_ := Aside0.mk (blk_below (g := gb1078) (o := .cells #[.int .i64 a1_0, .int .i64 a1_1] 26 (0, 0)) zal4 hb); have n2_ := Aside0.mk (below_step zal3 hb); clear BK1077; clear BK1078; clear HB; have BK1077 := n0_; have BK1078 := n1_; have HB := n2_; clear n0_ n1_ n2_; (try clear hb); (try clear hb2); (try clear hk); (try clear hi); (try clear hna_); (try clear hnb_)))
 have n0_ := Aside0.mk (blk_drew BK1077.out)
 have n1_ := Aside0.mk (blk_drew BK1078.out)
 have n2_ := Aside0.mk (below_drew1 HB.out)
 clear BK1077
 clear BK1078
 clear HB
 have BK1077 := n0_
 have BK1078 := n1_
 have HB := n2_
 clear n0_ n1_ n2_
 refine start_ (n := 10) (S := fun w' => w'.cell? ⟨gb1077, 0, none⟩ = some (.int .i64 a0_0) ∧ w'.cell? ⟨gb1077, 1, none⟩ = some (.int .i64 a0_1) ∧ w'.cell? ⟨gb1077, 2, none⟩ = some (.slice A0_2 l0_2.length c0_2) ∧ w'.cell? ⟨gb1078, 0, none⟩ = some (.int .i64 a1_0) ∧ w'.cell? ⟨gb1078, 1, none⟩ = some (.int .i64 a1_1)) (ds := []) #[false, false, false, false, false, false, false, false, false, false] (by kernel_rfl) rfl rfl ⟨(blk_cell BK1077.out 0).trans rfl, (blk_cell BK1077.out 1).trans rfl, (blk_cell BK1077.out 2).trans rfl, (blk_cell BK1078.out 0).trans rfl, (blk_cell BK1078.out 1).trans rfl⟩ (fun hHeld => ?_); refine with_tabW laws_FnExactWidthOf.tab5 laws_FnExactWidthOf.bits5 (fun HT_ HW_ => ?_)
 generalize w21.drew = w22 at BK1077 BK1078 HB hHeld ⊢
 refine take_ (i := 0) (N := some 17) (v := ?_) (a' := ?_) #[true, false, false, false, false, false, false, false, false, false] rfl rfl (take_ofW HT_.out HW_.out (by kernel_rfl)) (fun _ _ _ h => h) (Or.inl ⟨by rfl, ?_⟩) hHeld ?_ ?_
 rotate_left
 ·rintro w' ⟨s0, s1, s2, s3, s4⟩
  go_simp
  with_reducible rfl
 rotate_left
 ·simp only [Act.put, List.setIfInBounds_toArray, List.set_cons_zero, List.set_cons_succ, i64_w, i32_w]
  rfl
 refine take_ (i := 2) (N := some 19) (v := ?_) (a' := ?_) #[true, false, true, false, false, false, false, false, false, false] rfl rfl (take_ofW HT_.out HW_.out (by kernel_rfl)) (fun _ _ _ h => h) (Or.inl ⟨by rfl, ?_⟩) hHeld ?_ ?_
 rotate_left
 ·rintro w' ⟨s0, s1, s2, s3, s4⟩
  go_simp
  with_reducible rfl
 rotate_left
 ·simp only [Act.put, List.setIfInBounds_toArray, List.set_cons_zero, List.set_cons_succ, i64_w, i32_w]
  rfl
 refine one_ (i := 1) (N := some 18) #[true, true, true, false, false, false, false, false, false, false] rfl rfl (one_of HT_.out (by kernel_rfl)) (by decide) (fun K hK => ?_)
 refine goes_ Try.func17 (by kernel_rfl) rfl #[.agg #[.int .i64 a0_0, .int .i64 a0_1, .slice A0_2 l0_2.length c0_2]] (by rfl) rfl rfl zal6 ?_
 with_reducible refine (laws_toBoard.calls k a0_0 a0_1 _ _ l0_2 t1080 t1081 t1082 _ ?side1 ?side2 A10.out).mono ?_
 (case side1 => exact zal7)
 (case side2 => exact HC0_2.out)
 rintro e w23 ⟨v1083, rfl, ho0, hb⟩
 refine ⟨_, rfl, ?_⟩
 have n0_ := Aside0.mk (Kd.R_lower ho0 (below_size zal3))
 have n1_ := Aside0.mk (blk_below (g := gb1077) (o := .cells #[.int .i64 a0_0, .int .i64 a0_1, .slice A0_2 l0_2.length c0_2] 24 (0, 0)) zal2 hb)
 have n2_ := Aside0.mk (blk_below (g := gb1078) (o := .cells #[.int .i64 a1_0, .int .i64 a1_1] 26 (0, 0)) zal4 hb)
 have n3_ := Aside0.mk (below_step zal3 hb)
 clear BK1077
 clear BK1078
 clear HB
 have HO1084 := n0_
 have BK1077 := n1_
 have BK1078 := n2_
 have HB := n3_
 clear n0_ n1_ n2_ n3_
 (try clear hb)
 (try clear hb2)
 (try clear hk)
 (try clear hi)
 (try clear ho0)
 (try clear hna_)
 (try clear hnb_)
 refine hK.out _ _ ⟨(blk_cell BK1077.out 0).trans rfl, (blk_cell BK1077.out 1).trans rfl, (blk_cell BK1077.out 2).trans rfl, (blk_cell BK1078.out 0).trans rfl, (blk_cell BK1078.out 1).trans rfl⟩ (fun hHeld => ?_)
 clear hK K
 refine norm_ (a' := ?_) ?_ ?_
 rotate_left
 ·show Act.put _ (some 18) _ = _
  simp only [Act.put, List.setIfInBounds_toArray, List.set_cons_zero, List.set_cons_succ, i64_w, i32_w]
  rfl
 refine one_ (i := 3) (N := some 20) #[true, true, true, true, false, false, false, false, false, false] rfl rfl (one_of HT_.out (by kernel_rfl)) (by decide) (fun K hK => ?_)
 refine goes_ Try.func18 (by kernel_rfl) rfl #[.agg #[.int .i64 a1_0, .int .i64 a1_1]] (by rfl) rfl rfl zal6 ?_
 with_reducible refine (laws_toLeaper.calls a1_0 a1_1 t1085 t1086 _ A11.out).mono ?_
 rintro e w24 ⟨rfl, hb⟩
 refine ⟨_, rfl, ?_⟩
 have n0_ := Aside0.mk (Kd.R_below zal11 hb)
 have n1_ := Aside0.mk (blk_below (g := gb1077) (o := .cells #[.int .i64 a0_0, .int .i64 a0_1, .slice A0_2 l0_2.length c0_2] 24 (0, 0)) zal2 hb)
 have n2_ := Aside0.mk (blk_below (g := gb1078) (o := .cells #[.int .i64 a1_0, .int .i64 a1_1] 26 (0, 0)) zal4 hb)
 have n3_ := Aside0.mk (below_step zal3 hb)
 clear HO1084
 clear BK1077
 clear BK1078
 clear HB
 have HO1084 := n0_
 have BK1077 := n1_
 have BK1078 := n2_
 have HB := n3_
 clear n0_ n1_ n2_ n3_
 (try clear hb)
 (try clear hb2)
 (try clear hk)
 (try clear hi)
 (try clear hna_)
 (try clear hnb_)
 obtain ⟨Ao25, co25, eo25⟩ := Kd.R_slice HO1084.out
 (first | subst eo25 | (injection eo25 with f1_ f2_ f3_; have f4_ := f1_.symm; have f5_ := f3_.symm; clear f1_ f2_ f3_; subst f4_; subst f5_))
 refine hK.out _ _ ⟨(blk_cell BK1077.out 0).trans rfl, (blk_cell BK1077.out 1).trans rfl, (blk_cell BK1077.out 2).trans rfl, (blk_cell BK1078.out 0).trans rfl, (blk_cell BK1078.out 1).trans rfl⟩ (fun hHeld => ?_)
 clear hK K
 refine norm_ (a' := ?_) ?_ ?_
 rotate_left
 ·show Act.put _ (some 20) _ = _
  simp only [Act.put, List.setIfInBounds_toArray, List.set_cons_zero, List.set_cons_succ, i64_w, i32_w]
  rfl
 refine one_ (i := 4) (N := some 21) #[true, true, true, true, true, false, false, false, false, false] rfl rfl (one_of HT_.out (by kernel_rfl)) (by decide) (fun K hK => ?_)
 refine goes_ Try.func38 (by kernel_rfl) rfl #[.agg #[.int .i64 t1080, .int .i64 t1081, .slice Ao25 t1082.length co25], .agg #[.int .i64 t1085, .int .i64 t1086]] (by rfl) rfl rfl zal6 ?_
 with_reducible refine (spec_WidthOf.calls k t1080 t1081 _ _ t1082 t1085 t1086 t1087 t1088 _ ?side1 ?side2 A12.out).mono ?_
 (case side1 => repeat (first | exact (Kd.R_reads' HO1084.out).2.2 | (with_reducible refine Kd.C_alloc ?_ _) | (with_reducible refine Kd.C_drewN ?_ _) | (with_reducible refine Kd.C_drew ?_)))
 (case side2 => exact (Kd.R_reads' HO1084.out).2.1)
 rintro e w26 ⟨rfl, hb⟩
 refine ⟨_, rfl, ?_⟩
 have n0_ := Aside0.mk (Kd.R_below zal11 hb)
 have n1_ := Aside0.mk (blk_below (g := gb1077) (o := .cells #[.int .i64 a0_0, .int .i64 a0_1, .slice A0_2 l0_2.length c0_2] 24 (0, 0)) zal2 hb)
 have n2_ := Aside0.mk (blk_below (g := gb1078) (o := .cells #[.int .i64 a1_0, .int .i64 a1_1] 26 (0, 0)) zal4 hb)
 have n3_ := Aside0.mk (below_step zal3 hb)
 clear HO1084
 clear BK1077
 clear BK1078
 clear HB
 have HO1084 := n0_
 have BK1077 := n1_
 have BK1078 := n2_
 have HB := n3_
 clear n0_ n1_ n2_ n3_
 (try clear hb)
 (try clear hb2)
 (try clear hk)
 (try clear hi)
 (try clear hna_)
 (try clear hnb_)
 refine hK.out _ _ ⟨(blk_cell BK1077.out 0).trans rfl, (blk_cell BK1077.out 1).trans rfl, (blk_cell BK1077.out 2).trans rfl, (blk_cell BK1078.out 0).trans rfl, (blk_cell BK1078.out 1).trans rfl⟩ (fun hHeld => ?_)
 clear hK K
 refine norm_ (a' := ?_) ?_ ?_
 rotate_left
 ·show Act.put _ (some 21) _ = _
  simp only [Act.put, List.setIfInBounds_toArray, List.set_cons_zero, List.set_cons_succ, i64_w, i32_w]
  rfl
 refine pure_ (i := 5) (N := some 16) (v := ?_) (a' := ?_) #[true, true, true, true, true, true, false, false, false, false] rfl rfl (any_of HT_.out (by kernel_rfl)) (fun _ _ _ h => h) (Or.inl ⟨by rfl, ?_⟩) ?_ ?_
 rotate_left
 ·intro w'
  go_simp
  with_reducible rfl
 rotate_left
 ·simp only [Act.put, List.setIfInBounds_toArray, List.set_cons_zero, List.set_cons_succ, i64_w, i32_w]
  rfl
 refine pure_ (i := 6) (N := some 22) (v := ?_) (a' := ?_) #[true, true, true, true, true, true, true, false, false, false] rfl rfl (any_of HT_.out (by kernel_rfl)) (fun _ _ _ h => h) (Or.inl ⟨by rfl, ?_⟩) ?_ ?_
 rotate_left
 ·intro w'
  go_simp
  with_reducible rfl
 rotate_left
 ·simp only [Act.put, List.setIfInBounds_toArray, List.set_cons_zero, List.set_cons_succ, i64_w, i32_w]
  rfl
 refine pure_ (i := 7) (N := some 23) (v := ?_) (a' := ?_) #[true, true, true, true, true, true, true, true, false, false] rfl rfl (any_of HT_.out (by kernel_rfl)) (fun _ _ _ h => h) (Or.inl ⟨by rfl, ?_⟩) ?_ ?_
 rotate_left
 ·intro w'
  go_simp
  with_reducible rfl
 rotate_left
 ·simp only [Act.put, List.setIfInBounds_toArray, List.set_cons_zero, List.set_cons_succ, i64_w, i32_w]
  rfl
 refine pure_ (i := 8) (N := some 6) (v := ?_) (a' := ?_) #[true, true, true, true, true, true, true, true, true, false] rfl rfl (any_of HT_.out (by kernel_rfl)) (fun _ _ _ h => h) (Or.inl ⟨by rfl, ?_⟩) ?_ ?_
 rotate_left
 ·intro w'
  go_simp
  with_reducible rfl
 rotate_left
 ·simp only [Act.put, List.setIfInBounds_toArray, List.set_cons_zero, List.set_cons_succ, i64_w, i32_w]
  rfl
 refine pure_ (i := 9) (N := some 7) (v := ?_) (a' := ?_) #[true, true, true, true, true, true, true, true, true, true] rfl rfl (any_of HT_.out (by kernel_rfl)) (fun _ _ _ h => h) (Or.inl ⟨by rfl, ?_⟩) ?_ ?_
 rotate_left
 ·intro w'
  go_simp
  with_reducible rfl
 rotate_left
 ·simp only [Act.put, List.setIfInBounds_toArray, List.set_cons_zero, List.set_cons_succ, i64_w, i32_w]
  rfl
 refine done_ (done_of HT_.out (by kernel_rfl)) ?_
 have hcz27_0 : w26.cell? ⟨gb1077, 0, none⟩ = some (.int .i64 a0_0) := (blk_cell BK1077.out 0).trans rfl
 have hcz27_1 : w26.cell? ⟨gb1077, 1, none⟩ = some (.int .i64 a0_1) := (blk_cell BK1077.out 1).trans rfl
 have hcz27_2 : w26.cell? ⟨gb1077, 2, none⟩ = some (.slice A0_2 l0_2.length c0_2) := (blk_cell BK1077.out 2).trans rfl
 have hfz27_0 := blk_frozen BK1077.out 0
 have hfz27_1 := blk_frozen BK1077.out 1
 have hfz27_2 := blk_frozen BK1077.out 2
 try go_wp2_with (first | ((with_reducible refine gate_callee (f := 17) rfl ?_); refine goesL_ (some 25) rfl rfl Try.func17 (by kernel_rfl) rfl #[.agg #[.int .i64 a0_0, .int .i64 a0_1, .slice A0_2 l0_2.length c0_2]] rfl zal6 ?_; (with_reducible refine (laws_toBoard.calls k a0_0 a0_1 _ _ l0_2 t1089 t1090 t1091 _ ?side1 ?side2 A13.out).mono ?_); (case side1 => exact zal7); (case side2 => exact HC0_2.out); rintro e w28 ⟨v1092, rfl, ho0, hb⟩; refine ⟨_, rfl, ?_⟩; have n0_ := Aside0.mk (Kd.R_elder' zal11 (Kd.R_base ho0) hb); have n1_ := Aside0.mk (Kd.R_lower (Kd.R_new' ho0 (Kd.R_lt zal11)) (below_size zal3)); have n2_ := Aside0.mk (blk_below (g := gb1077) (o := .cells #[.int .i64 a0_0, .int .i64 a0_1, .slice A0_2 l0_2.length c0_2] 24 (0, 0)) zal2 hb); have n3_ := Aside0.mk (blk_below (g := gb1078) (o := .cells #[.int .i64 a1_0, .int .i64 a1_1] 26 (0, 0)) zal4 hb); have n4_ := Aside0.mk (below_step zal3 hb); clear HO1084; clear BK1077; clear BK1078; clear HB; have HO1084 := n0_; have HO1093 := n1_; have BK1077 := n2_; have BK1078 := n3_; have HB := n4_; clear n0_ n1_ n2_ n3_ n4_; (try clear hb); (try clear hb2); (try clear hk); (try clear hi); (try clear ho0); (try clear hna_); (try clear hnb_)) | ((with_reducible refine gate_dst (N := 8) rfl ?_); refine box_event ?hg (N := 8) ?hd (cs := #[.int .i64 0, .int .i64 0, .slice none 0 0]) (t := 30) ?hr ?_; (case hd => rfl); (case hg => rfl); (case hr => first | (go_simp; done) | (go_simp; rfl)); intro gb1094 hg w29 hbox hb; have n0_ := Aside0.mk (Kd.R_below zal11 hb); have n1_ := Aside0.mk (Kd.R_below zal14 hb); have n2_ := Aside0.mk (blk_below (g := gb1077) (o := .cells #[.int .i64 a0_0, .int .i64 a0_1, .slice A0_2 l0_2.length c0_2] 24 (0, 0)) zal2 hb); have n3_ := Aside0.mk (blk_below (g := gb1078) (o := .cells #[.int .i64 a1_0, .int .i64 a1_1] 26 (0, 0)) zal4 hb); have n4_ := Aside0.mk (below_step zal3 hb); have n5_ := Aside0.mk (hbox); have n6_ := Aside0.mk ((by rw [hg]; exact (below_size zal3) : w.heap.size ≤ gb1094)); have n7_ := Aside0.mk ((by rw [hg]; exact (below_size zal3) : w.heap.size ≤ gb1094)); have n8_ := Aside0.mk ((zal18 : gb1077 ≠ gb1094)); have n9_ := Aside0.mk ((zal19 : gb1094 ≠ gb1077)); have n10_ := Aside0.mk ((by rw [hg]; exact Nat.ne_of_lt (blk_lt (g := gb1078) (o := .cells #[.int .i64 a1_0, .int .i64 a1_1] 26 (0, 0)) zal4) : gb1078 ≠ gb1094)); have n11_ := Aside0.mk ((by rw [hg]; exact Nat.ne_of_gt (blk_lt (g := gb1078) (o := .cells #[.int .i64 a1_0, .int .i64 a1_1] 26 (0, 0)) zal4) : gb1094 ≠ gb1078)); clear HO1084; clear HO1093; clear BK1077; clear BK1078; clear HB; have HO1084 := n0_; have HO1093 := n1_; have BK1077 := n2_; have BK1078 := n3_; have HB := n4_; have BK1094 := n5_; have GW1094 := n6_; have GE1094 := n7_; have NB1077_1094 := n8_; have NB1094_1077 := n9_; have NB1078_1094 := n10_; have NB1094_1078 := n11_; clear n0_ n1_ n2_ n3_ n4_ n5_ n6_ n7_ n8_ n9_ n10_ n11_; clear hb hbox hg; have hnb30 := NB1094_1077.out; have hnc30 := NB1077_1094.out; have hnb31 := NB1094_1078.out; have hnc31 := NB1078_1094.out; have hcz32_0 : w29.cell? ⟨gb1094, 0, none⟩ = some (.int .i64 0) := (blk_cell BK1094.out 0).trans rfl; have hcz32_1 : w29.cell? ⟨gb1094, 1, none⟩ = some (.int .i64 0) := (blk_cell BK1094.out 1).trans rfl; have hcz32_2 : w29.cell? ⟨gb1094, 2, none⟩ = some (.slice none 0 0) := (blk_cell BK1094.out 2).trans rfl; have hfz32_0 := blk_frozen BK1094.out 0; have hfz32_1 := blk_frozen BK1094.out 1; have hfz32_2 := blk_frozen BK1094.out 2; obtain ⟨Ao33, co33, eo33⟩ := Kd.R_slice HO1093.out; subst eo33))
 have n0_ : Aside0 (Kd.R (Kd.int .i64) 3 (((w29.setCell ⟨gb1094, 0, none⟩ (.int .i64 t1089)).setCell ⟨gb1094, 1, none⟩ (.int .i64 t1090)).setCell ⟨gb1094, 2, none⟩ (.slice Ao33 t1091.length co33)) w.heap.size (fun k_ => some k_ ≠ (.slice Ao33 t1091.length co33 : Value).ownBlock) (.slice Ao25 t1082.length co25) t1082) := ⟨by (with_reducible repeat (first | apply Kd.R_alloc | apply Kd.R_drewN | apply Kd.R_drew)); exact Kd.R_mono (Kd.R_far (p := ⟨gb1094, 2, none⟩) (Kd.R_far (p := ⟨gb1094, 1, none⟩) (Kd.R_far (p := ⟨gb1094, 0, none⟩) (Kd.R_types HO1084.out BK1094.out (by decide)) (fun _ hk => hk.2) (.int .i64 t1089)) (fun _ hk => hk.2) (.int .i64 t1090)) (fun _ hk => hk.2) (.slice Ao33 t1091.length co33)) (fun _ hk => hk.1.2)⟩
 have n1_ : Aside0 (Kd.R (Kd.int .i64) 3 (((w29.setCell ⟨gb1094, 0, none⟩ (.int .i64 t1089)).setCell ⟨gb1094, 1, none⟩ (.int .i64 t1090)).setCell ⟨gb1094, 2, none⟩ (.slice Ao33 t1091.length co33)) w.heap.size (fun k_ => some k_ ≠ (.slice Ao25 t1082.length co25 : Value).ownBlock) (.slice Ao33 t1091.length co33) t1091) := ⟨by (with_reducible repeat (first | apply Kd.R_alloc | apply Kd.R_drewN | apply Kd.R_drew)); exact Kd.R_mono (Kd.R_far (p := ⟨gb1094, 2, none⟩) (Kd.R_far (p := ⟨gb1094, 1, none⟩) (Kd.R_far (p := ⟨gb1094, 0, none⟩) (Kd.R_types HO1093.out BK1094.out (by decide)) (fun _ hk => hk.2) (.int .i64 t1089)) (fun _ hk => hk.2) (.int .i64 t1090)) (fun _ hk => hk.2) (.slice Ao33 t1091.length co33)) (fun _ hk => hk.1.2)⟩
 have n2_ : Aside0 ((((w29.setCell ⟨gb1094, 0, none⟩ (.int .i64 t1089)).setCell ⟨gb1094, 1, none⟩ (.int .i64 t1090)).setCell ⟨gb1094, 2, none⟩ (.slice Ao33 t1091.length co33)).heap[gb1077]? = some (.cells #[.int .i64 a0_0, .int .i64 a0_1, .slice A0_2 l0_2.length c0_2] 24 (0, 0))) := ⟨by (with_reducible repeat (first | refine blk_drewN ?_ _ | refine blk_drew ?_ | refine blk_alloc ?_ _)); refine blk_far ?_ NB1077_1094.out _; (with_reducible repeat (first | refine blk_drewN ?_ _ | refine blk_drew ?_ | refine blk_alloc ?_ _)); refine blk_far ?_ NB1077_1094.out _; (with_reducible repeat (first | refine blk_drewN ?_ _ | refine blk_drew ?_ | refine blk_alloc ?_ _)); refine blk_far ?_ NB1077_1094.out _; (with_reducible repeat (first | refine blk_drewN ?_ _ | refine blk_drew ?_ | refine blk_alloc ?_ _)); exact BK1077.out⟩
 have n3_ : Aside0 ((((w29.setCell ⟨gb1094, 0, none⟩ (.int .i64 t1089)).setCell ⟨gb1094, 1, none⟩ (.int .i64 t1090)).setCell ⟨gb1094, 2, none⟩ (.slice Ao33 t1091.length co33)).heap[gb1078]? = some (.cells #[.int .i64 a1_0, .int .i64 a1_1] 26 (0, 0))) := ⟨by (with_reducible repeat (first | refine blk_drewN ?_ _ | refine blk_drew ?_ | refine blk_alloc ?_ _)); refine blk_far ?_ NB1078_1094.out _; (with_reducible repeat (first | refine blk_drewN ?_ _ | refine blk_drew ?_ | refine blk_alloc ?_ _)); refine blk_far ?_ NB1078_1094.out _; (with_reducible repeat (first | refine blk_drewN ?_ _ | refine blk_drew ?_ | refine blk_alloc ?_ _)); refine blk_far ?_ NB1078_1094.out _; (with_reducible repeat (first | refine blk_drewN ?_ _ | refine blk_drew ?_ | refine blk_alloc ?_ _)); exact BK1078.out⟩
 have n4_ : Aside0 ((((w29.setCell ⟨gb1094, 0, none⟩ (.int .i64 t1089)).setCell ⟨gb1094, 1, none⟩ (.int .i64 t1090)).setCell ⟨gb1094, 2, none⟩ (.slice Ao33 t1091.length co33)).heap[gb1094]? = some (.cells #[.int .i64 t1089, .int .i64 t1090, .slice Ao33 t1091.length co33] 30 (0, 0))) := ⟨by (with_reducible repeat (first | refine blk_drewN ?_ _ | refine blk_drew ?_ | refine blk_alloc ?_ _)); refine blk_put (cs := #[.int .i64 t1089, .int .i64 t1090, .slice none 0 0]) ?_ 2 _ rfl; (with_reducible repeat (first | refine blk_drewN ?_ _ | refine blk_drew ?_ | refine blk_alloc ?_ _)); refine blk_put (cs := #[.int .i64 t1089, .int .i64 0, .slice none 0 0]) ?_ 1 _ rfl; (with_reducible repeat (first | refine blk_drewN ?_ _ | refine blk_drew ?_ | refine blk_alloc ?_ _)); refine blk_put (cs := #[.int .i64 0, .int .i64 0, .slice none 0 0]) ?_ 0 _ rfl; (with_reducible repeat (first | refine blk_drewN ?_ _ | refine blk_drew ?_ | refine blk_alloc ?_ _)); exact BK1094.out⟩
 have n5_ : Aside0 (Below w.heap.size w (((w29.setCell ⟨gb1094, 0, none⟩ (.int .i64 t1089)).setCell ⟨gb1094, 1, none⟩ (.int .i64 t1090)).setCell ⟨gb1094, 2, none⟩ (.slice Ao33 t1091.length co33))) := ⟨zal1⟩
 (try clear HO1084)
 (try clear HO1093)
 (try clear BK1077)
 (try clear BK1078)
 (try clear BK1094)
 (try clear HB)
 generalize (((w29.setCell ⟨gb1094, 0, none⟩ (.int .i64 t1089)).setCell ⟨gb1094, 1, none⟩ (.int .i64 t1090)).setCell ⟨gb1094, 2, none⟩ (.slice Ao33 t1091.length co33)) = w34 at n0_ n1_ n2_ n3_ n4_ n5_ ⊢
 have HO1084 := n0_
 have HO1093 := n1_
 have BK1077 := n2_
 have BK1078 := n3_
 have BK1094 := n4_
 have HB := n5_
 clear n0_ n1_ n2_ n3_ n4_ n5_
 have n0_ := Aside0.mk (Kd.R_drew HO1084.out)
 have n1_ := Aside0.mk (Kd.R_drew HO1093.out)
 have n2_ := Aside0.mk (blk_drew BK1077.out)
 have n3_ := Aside0.mk (blk_drew BK1078.out)
 have n4_ := Aside0.mk (blk_drew BK1094.out)
 have n5_ := Aside0.mk (below_drew1 HB.out)
 clear HO1084
 clear HO1093
 clear BK1077
 clear BK1078
 clear BK1094
 clear HB
 have HO1084 := n0_
 have HO1093 := n1_
 have BK1077 := n2_
 have BK1078 := n3_
 have BK1094 := n4_
 have HB := n5_
 clear n0_ n1_ n2_ n3_ n4_ n5_
 refine start_ (n := 9) (S := fun w' => w'.cell? ⟨gb1094, 0, none⟩ = some (.int .i64 t1089) ∧ w'.cell? ⟨gb1094, 1, none⟩ = some (.int .i64 t1090) ∧ w'.cell? ⟨gb1094, 2, none⟩ = some (.slice Ao33 t1091.length co33) ∧ w'.cell? ⟨gb1078, 0, none⟩ = some (.int .i64 a1_0) ∧ w'.cell? ⟨gb1078, 1, none⟩ = some (.int .i64 a1_1)) (ds := []) #[false, false, false, false, false, false, false, false, false] (by kernel_rfl) rfl rfl ⟨(blk_cell BK1094.out 0).trans rfl, (blk_cell BK1094.out 1).trans rfl, (blk_cell BK1094.out 2).trans rfl, (blk_cell BK1078.out 0).trans rfl, (blk_cell BK1078.out 1).trans rfl⟩ (fun hHeld => ?_); refine with_tabW laws_FnExactWidthOf.tab7 laws_FnExactWidthOf.bits7 (fun HT_ HW_ => ?_)
 generalize w34.drew = w35 at HO1084 HO1093 BK1077 BK1078 BK1094 HB hHeld ⊢
 refine take_ (i := 0) (N := some 27) (v := ?_) (a' := ?_) #[true, false, false, false, false, false, false, false, false] rfl rfl (take_ofW HT_.out HW_.out (by kernel_rfl)) (fun _ _ _ h => h) (Or.inl ⟨by rfl, ?_⟩) hHeld ?_ ?_
 rotate_left
 ·rintro w' ⟨s0, s1, s2, s3, s4⟩
  go_simp
  with_reducible rfl
 rotate_left
 ·simp only [Act.put, List.setIfInBounds_toArray, List.set_cons_zero, List.set_cons_succ, i64_w, i32_w]
  rfl
 refine take_ (i := 1) (N := some 28) (v := ?_) (a' := ?_) #[true, true, false, false, false, false, false, false, false] rfl rfl (take_ofW HT_.out HW_.out (by kernel_rfl)) (fun _ _ _ h => h) (Or.inl ⟨by rfl, ?_⟩) hHeld ?_ ?_
 rotate_left
 ·rintro w' ⟨s0, s1, s2, s3, s4⟩
  go_simp
  with_reducible rfl
 rotate_left
 ·simp only [Act.put, List.setIfInBounds_toArray, List.set_cons_zero, List.set_cons_succ, i64_w, i32_w]
  rfl
 refine one_ (i := 2) (N := some 29) #[true, true, true, false, false, false, false, false, false] rfl rfl (one_of HT_.out (by kernel_rfl)) (by decide) (fun K hK => ?_)
 refine goes_ Try.func18 (by kernel_rfl) rfl #[.agg #[.int .i64 a1_0, .int .i64 a1_1]] (by rfl) rfl rfl zal6 ?_
 with_reducible refine (laws_toLeaper.calls a1_0 a1_1 t1095 t1096 _ A14.out).mono ?_
 rintro e w36 ⟨rfl, hb⟩
 refine ⟨_, rfl, ?_⟩
 have n0_ := Aside0.mk (Kd.R_below zal11 hb)
 have n1_ := Aside0.mk (Kd.R_below zal14 hb)
 have n2_ := Aside0.mk (blk_below (g := gb1077) (o := .cells #[.int .i64 a0_0, .int .i64 a0_1, .slice A0_2 l0_2.length c0_2] 24 (0, 0)) zal2 hb)
 have n3_ := Aside0.mk (blk_below (g := gb1078) (o := .cells #[.int .i64 a1_0, .int .i64 a1_1] 26 (0, 0)) zal4 hb)
 have n4_ := Aside0.mk (blk_below (g := gb1094) (o := .cells #[.int .i64 t1089, .int .i64 t1090, .slice Ao33 t1091.length co33] 30 (0, 0)) zal9 hb)
 have n5_ := Aside0.mk (below_step zal1 hb)
 clear HO1084
 clear HO1093
 clear BK1077
 clear BK1078
 clear BK1094
 clear HB
 have HO1084 := n0_
 have HO1093 := n1_
 have BK1077 := n2_
 have BK1078 := n3_
 have BK1094 := n4_
 have HB := n5_
 clear n0_ n1_ n2_ n3_ n4_ n5_
 (try clear hb)
 (try clear hb2)
 (try clear hk)
 (try clear hi)
 (try clear hna_)
 (try clear hnb_)
 refine hK.out _ _ ⟨(blk_cell BK1094.out 0).trans rfl, (blk_cell BK1094.out 1).trans rfl, (blk_cell BK1094.out 2).trans rfl, (blk_cell BK1078.out 0).trans rfl, (blk_cell BK1078.out 1).trans rfl⟩ (fun hHeld => ?_)
 clear hK K
 refine norm_ (a' := ?_) ?_ ?_
 rotate_left
 ·show Act.put _ (some 29) _ = _
  simp only [Act.put, List.setIfInBounds_toArray, List.set_cons_zero, List.set_cons_succ, i64_w, i32_w]
  rfl
 refine one_ (i := 3) (N := some 30) #[true, true, true, true, false, false, false, false, false] rfl rfl (one_of HT_.out (by kernel_rfl)) (by decide) (fun K hK => ?_)
 refine goes_ Try.func39 (by kernel_rfl) rfl #[.agg #[.int .i64 t1089, .int .i64 t1090, .slice Ao33 t1091.length co33], .agg #[.int .i64 t1095, .int .i64 t1096]] (by rfl) rfl rfl zal6 ?_
 with_reducible refine (impl_WidthOf.calls k t1089 t1090 _ _ t1091 t1095 t1096 t1097 t1098 _ ?side1 ?side2 A15.out).mono ?_
 (case side1 => repeat (first | exact (Kd.R_reads' HO1093.out).2.2 | (with_reducible refine Kd.C_alloc ?_ _) | (with_reducible refine Kd.C_drewN ?_ _) | (with_reducible refine Kd.C_drew ?_)))
 (case side2 => exact (Kd.R_reads' HO1093.out).2.1)
 rintro e w37 ⟨rfl, hb⟩
 refine ⟨_, rfl, ?_⟩
 have n0_ := Aside0.mk (Kd.R_below zal11 hb)
 have n1_ := Aside0.mk (Kd.R_below zal14 hb)
 have n2_ := Aside0.mk (blk_below (g := gb1077) (o := .cells #[.int .i64 a0_0, .int .i64 a0_1, .slice A0_2 l0_2.length c0_2] 24 (0, 0)) zal2 hb)
 have n3_ := Aside0.mk (blk_below (g := gb1078) (o := .cells #[.int .i64 a1_0, .int .i64 a1_1] 26 (0, 0)) zal4 hb)
 have n4_ := Aside0.mk (blk_below (g := gb1094) (o := .cells #[.int .i64 t1089, .int .i64 t1090, .slice Ao33 t1091.length co33] 30 (0, 0)) zal9 hb)
 have n5_ := Aside0.mk (below_step zal1 hb)
 clear HO1084
 clear HO1093
 clear BK1077
 clear BK1078
 clear BK1094
 clear HB
 have HO1084 := n0_
 have HO1093 := n1_
 have BK1077 := n2_
 have BK1078 := n3_
 have BK1094 := n4_
 have HB := n5_
 clear n0_ n1_ n2_ n3_ n4_ n5_
 (try clear hb)
 (try clear hb2)
 (try clear hk)
 (try clear hi)
 (try clear hna_)
 (try clear hnb_)
 refine hK.out _ _ ⟨(blk_cell BK1094.out 0).trans rfl, (blk_cell BK1094.out 1).trans rfl, (blk_cell BK1094.out 2).trans rfl, (blk_cell BK1078.out 0).trans rfl, (blk_cell BK1078.out 1).trans rfl⟩ (fun hHeld => ?_)
 clear hK K
 refine norm_ (a' := ?_) ?_ ?_
 rotate_left
 ·show Act.put _ (some 30) _ = _
  simp only [Act.put, List.setIfInBounds_toArray, List.set_cons_zero, List.set_cons_succ, i64_w, i32_w]
  rfl
 refine pure_ (i := 4) (N := some 26) (v := ?_) (a' := ?_) #[true, true, true, true, true, false, false, false, false] rfl rfl (any_of HT_.out (by kernel_rfl)) (fun _ _ _ h => h) (Or.inl ⟨by rfl, ?_⟩) ?_ ?_
 rotate_left
 ·intro w'
  go_simp
  with_reducible rfl
 rotate_left
 ·simp only [Act.put, List.setIfInBounds_toArray, List.set_cons_zero, List.set_cons_succ, i64_w, i32_w]
  rfl
 refine pure_ (i := 5) (N := some 31) (v := ?_) (a' := ?_) #[true, true, true, true, true, true, false, false, false] rfl rfl (any_of HT_.out (by kernel_rfl)) (fun _ _ _ h => h) (Or.inl ⟨by rfl, ?_⟩) ?_ ?_
 rotate_left
 ·intro w'
  go_simp
  with_reducible rfl
 rotate_left
 ·simp only [Act.put, List.setIfInBounds_toArray, List.set_cons_zero, List.set_cons_succ, i64_w, i32_w]
  rfl
 refine pure_ (i := 6) (N := some 32) (v := ?_) (a' := ?_) #[true, true, true, true, true, true, true, false, false] rfl rfl (any_of HT_.out (by kernel_rfl)) (fun _ _ _ h => h) (Or.inl ⟨by rfl, ?_⟩) ?_ ?_
 rotate_left
 ·intro w'
  go_simp
  with_reducible rfl
 rotate_left
 ·simp only [Act.put, List.setIfInBounds_toArray, List.set_cons_zero, List.set_cons_succ, i64_w, i32_w]
  rfl
 refine pure_ (i := 7) (N := some 9) (v := ?_) (a' := ?_) #[true, true, true, true, true, true, true, true, false] rfl rfl (any_of HT_.out (by kernel_rfl)) (fun _ _ _ h => h) (Or.inl ⟨by rfl, ?_⟩) ?_ ?_
 rotate_left
 ·intro w'
  go_simp
  with_reducible rfl
 rotate_left
 ·simp only [Act.put, List.setIfInBounds_toArray, List.set_cons_zero, List.set_cons_succ, i64_w, i32_w]
  rfl
 refine pure_ (i := 8) (N := some 10) (v := ?_) (a' := ?_) #[true, true, true, true, true, true, true, true, true] rfl rfl (any_of HT_.out (by kernel_rfl)) (fun _ _ _ h => h) (Or.inl ⟨by rfl, ?_⟩) ?_ ?_
 rotate_left
 ·intro w'
  go_simp
  with_reducible rfl
 rotate_left
 ·simp only [Act.put, List.setIfInBounds_toArray, List.set_cons_zero, List.set_cons_succ, i64_w, i32_w]
  rfl
 refine done_ (done_of HT_.out (by kernel_rfl)) ?_
 go_upto_region 8 with (fail)
 go_cut [40] (fun v40 wc => ∃ (kq : Nat) (x40_15 : Bool), v40 = .bool x40_15 ∧ Aside0 (laws_FnExactWidthOf.j0 kq x40_15 a0_0 a0_1 l0_2 t1089 t1090 t1091 = some r) ∧ Aside0 (kq ≤ k) ∧ Aside0 (Kd.R (Kd.int .i64) 3 wc w.heap.size (fun _ => True) (.slice Ao33 t1091.length co33) t1091) ∧ Aside0 (wc.heap[gb1077]? = some (.cells #[.int .i64 a0_0, .int .i64 a0_1, (.slice A0_2 l0_2.length c0_2)] 24 (0, 0))) ∧ Aside0 (wc.heap[gb1078]? = some (.cells #[.int .i64 a1_0, .int .i64 a1_1] 26 (0, 0))) ∧ Aside0 (wc.heap[gb1094]? = some (.cells #[.int .i64 t1089, .int .i64 t1090, (.slice Ao33 t1091.length co33)] 30 (0, 0))) ∧ Aside0 (Below w.heap.size w wc))
 case first =>
  have H := HC16.out
  clear HC16
  by_cases c38 : t1097 = t1087
  rotate_left
  ·rw [if_neg c38] at H
   have c38b0 : (t1097 == t1087) = false := beq_eq_false_iff_ne.mpr c38
   have c38b1 : (t1097 != t1087) = true := bne_iff_ne.mpr c38
   (first | rw [c38b0] | (simp only [i64_w, i32_w]; rw [c38b0]) | skip)
   have H' := Aside0.mk H
   clear H
   go_wp2
   go_meet
   case rel => exact ⟨_, (true), (by first | rfl | (simp; done) | (simp [*]; done)), H', ⟨by first | omega | exact Nat.le_refl _⟩, ⟨zal17⟩, ⟨zal2⟩, ⟨zal4⟩, ⟨zal9⟩, ⟨zal1⟩⟩
  rw [if_pos c38] at H
  have c38b0 : (t1097 == t1087) = true := beq_iff_eq.mpr c38
  have c38b1 : (t1097 != t1087) = false := bne_eq_false_iff_eq.mpr c38
  clear c38
  (first | rw [c38b0] | (simp only [i64_w, i32_w]; rw [c38b0]) | skip)
  have H' := Aside0.mk H
  clear H
  go_wp2
  go_meet
  case rel => exact ⟨_, ((t1098 != t1088)), (by first | rfl | (simp; done) | (simp [*]; done)), H', ⟨by first | omega | exact Nat.le_refl _⟩, ⟨zal17⟩, ⟨zal2⟩, ⟨zal4⟩, ⟨zal9⟩, ⟨zal1⟩⟩
 case rest =>
  clear HC16
  try clear c1; try clear p2; try clear c3; try clear c4; try clear c4b0; try clear c7; try clear c10; try clear c15; try clear c17; try clear c18; try clear c19; try clear c30; try clear c31; try clear c38; try clear c38b0; try clear c38b1; try clear hcz20_0; try clear hcz20_1; try clear hcz20_2; try clear hcz27_0; try clear hcz27_1; try clear hcz27_2; try clear hcz32_0; try clear hcz32_1; try clear hcz32_2; try clear hcz8_0; try clear hcz8_1; try clear hcz8_2; try clear hfz20_0; try clear hfz20_1; try clear hfz20_2; try clear hfz27_0; try clear hfz27_1; try clear hfz27_2; try clear hfz32_0; try clear hfz32_1
  try clear hfz32_2; try clear hfz8_0; try clear hfz8_1; try clear hfz8_2
  obtain ⟨kq, x40_15, rfl, HA, HJ15, HO_1095002, BK1077, BK1078, BK1094, HB⟩ := hcut
  cases kq with
  | zero => exact absurd HA.out (by simp [laws_FnExactWidthOf.j0])
  | succ kj15 =>
   have H := HA.out
   clear HA
   simp only [laws_FnExactWidthOf.j0] at H
   by_cases c39 : x40_15 = true
   ·subst c39
    have H1 : (some false) = some r := by rw [if_pos rfl] at H; exact H
    clear H
    have H := H1
    clear H1
    obtain rfl := Option.some.inj H
    go_wp2
    go_ret
    exact ⟨zal13, zal1⟩
   replace c39 := Bool.eq_false_iff.mpr c39
   subst c39
   have H1 : ((laws_toBoard.f kj15 a0_0 a0_1 l0_2).bind fun bt1099 => ((laws_eqBoard.f kj15 t1089 t1090 t1091 bt1099.1 bt1099.2.1 bt1099.2.2).bind fun t1104 => (if t1104 = true then (some true) else (some false)))) = some r := by rw [if_neg (show ¬ (false = true) by decide)] at H; exact H
   clear H
   have H := H1
   clear H1
   replace H := Option.bind_eq_some_iff.mp H
   obtain ⟨⟨t1099, t1100, t1101⟩, A400, H⟩ := H
   replace H : ((laws_eqBoard.f kj15 t1089 t1090 t1091 t1099 t1100 t1101).bind fun t1104 => (if t1104 = true then (some true) else (some false))) = some r := H
   have A40 := Aside0.mk A400
   clear A400
   replace H := Option.bind_eq_some_iff.mp H
   obtain ⟨t1104, A410, H⟩ := H
   replace H : (if t1104 = true then (some true) else (some false)) = some r := H
   have A41 := Aside0.mk A410
   clear A410
   by_cases c42 : t1104 = true
   ·subst c42
    have H1 : (some true) = some r := by rw [if_pos rfl] at H; exact H
    clear H
    have H := H1
    clear H1
    obtain rfl := Option.some.inj H
    try go_wp2
    have n0_ := Aside0.mk (Kd.R_drew HO_1095002.out)
    have n1_ := Aside0.mk (blk_drew BK1077.out)
    have n2_ := Aside0.mk (blk_drew BK1078.out)
    have n3_ := Aside0.mk (blk_drew BK1094.out)
    have n4_ := Aside0.mk (below_drew1 HB.out)
    clear HO_1095002
    clear BK1077
    clear BK1078
    clear BK1094
    clear HB
    have HO_1095002 := n0_
    have BK1077 := n1_
    have BK1078 := n2_
    have BK1094 := n3_
    have HB := n4_
    clear n0_ n1_ n2_ n3_ n4_
    refine start_ (n := 5) (S := fun w' => w'.cell? ⟨gb1094, 0, none⟩ = some (.int .i64 t1089) ∧ w'.cell? ⟨gb1094, 1, none⟩ = some (.int .i64 t1090) ∧ w'.cell? ⟨gb1094, 2, none⟩ = some (.slice Ao33 t1091.length co33) ∧ w'.cell? ⟨gb1077, 0, none⟩ = some (.int .i64 a0_0) ∧ w'.cell? ⟨gb1077, 1, none⟩ = some (.int .i64 a0_1) ∧ w'.cell? ⟨gb1077, 2, none⟩ = some (.slice A0_2 l0_2.length c0_2)) (ds := []) #[false, false, false, false, false] (by kernel_rfl) rfl rfl ⟨(blk_cell BK1094.out 0).trans rfl, (blk_cell BK1094.out 1).trans rfl, (blk_cell BK1094.out 2).trans rfl, (blk_cell BK1077.out 0).trans rfl, (blk_cell BK1077.out 1).trans rfl, (blk_cell BK1077.out 2).trans rfl⟩ (fun hHeld => ?_)
    generalize wc.drew = w43 at HO_1095002 BK1077 BK1078 BK1094 HB hHeld ⊢
    refine take_ (i := 0) (N := some 41) (v := ?_) (a' := ?_) #[true, false, false, false, false] rfl rfl (by kernel_rfl) (fun _ _ _ h => h) (Or.inl ⟨by rfl, ?_⟩) hHeld ?_ ?_
    rotate_left
    ·rintro w' ⟨s0, s1, s2, s3, s4, s5⟩
     go_simp
     with_reducible rfl
    rotate_left
    ·simp only [Act.put, List.setIfInBounds_toArray, List.set_cons_zero, List.set_cons_succ, i64_w, i32_w]
     rfl
    refine take_ (i := 1) (N := some 42) (v := ?_) (a' := ?_) #[true, true, false, false, false] rfl rfl (by kernel_rfl) (fun _ _ _ h => h) (Or.inl ⟨by rfl, ?_⟩) hHeld ?_ ?_
    rotate_left
    ·rintro w' ⟨s0, s1, s2, s3, s4, s5⟩
     go_simp
     with_reducible rfl
    rotate_left
    ·simp only [Act.put, List.setIfInBounds_toArray, List.set_cons_zero, List.set_cons_succ, i64_w, i32_w]
     rfl
    refine one_ (i := 2) (N := some 43) #[true, true, true, false, false] rfl rfl (by kernel_rfl) (by decide) (fun K hK => ?_)
    refine goes_ Try.func17 (by kernel_rfl) rfl #[.agg #[.int .i64 a0_0, .int .i64 a0_1, .slice A0_2 l0_2.length c0_2]] (by rfl) rfl rfl zal6 ?_
    with_reducible refine (laws_toBoard.calls kj15 a0_0 a0_1 _ _ l0_2 t1099 t1100 t1101 _ ?side1 ?side2 A40.out).mono ?_
    (case side1 => exact zal7)
    (case side2 => exact HC0_2.out)
    rintro e w44 ⟨v1102, rfl, ho0, hb⟩
    refine ⟨_, rfl, ?_⟩
    have n0_ := Aside0.mk (Kd.R_elder' zal12 (Kd.R_base ho0) hb)
    have n1_ := Aside0.mk (Kd.R_lower (Kd.R_new' ho0 (Kd.R_lt zal12)) (below_size zal1))
    have n2_ := Aside0.mk (blk_below (g := gb1077) (o := .cells #[.int .i64 a0_0, .int .i64 a0_1, .slice A0_2 l0_2.length c0_2] 24 (0, 0)) zal2 hb)
    have n3_ := Aside0.mk (blk_below (g := gb1078) (o := .cells #[.int .i64 a1_0, .int .i64 a1_1] 26 (0, 0)) zal4 hb)
    have n4_ := Aside0.mk (blk_below (g := gb1094) (o := .cells #[.int .i64 t1089, .int .i64 t1090, .slice Ao33 t1091.length co33] 30 (0, 0)) zal9 hb)
    have n5_ := Aside0.mk (below_step zal1 hb)
    clear HO_1095002
    clear BK1077
    clear BK1078
    clear BK1094
    clear HB
    have HO_1095002 := n0_
    have HO1103 := n1_
    have BK1077 := n2_
    have BK1078 := n3_
    have BK1094 := n4_
    have HB := n5_
    clear n0_ n1_ n2_ n3_ n4_ n5_
    (try clear hb)
    (try clear hb2)
    (try clear hk)
    (try clear hi)
    (try clear ho0)
    (try clear hna_)
    (try clear hnb_)
    obtain ⟨Ao45, co45, eo45⟩ := Kd.R_slice HO1103.out
    (first | subst eo45 | (injection eo45 with f1_ f2_ f3_; have f4_ := f1_.symm; have f5_ := f3_.symm; clear f1_ f2_ f3_; subst f4_; subst f5_))
    refine hK.out _ _ ⟨(blk_cell BK1094.out 0).trans rfl, (blk_cell BK1094.out 1).trans rfl, (blk_cell BK1094.out 2).trans rfl, (blk_cell BK1077.out 0).trans rfl, (blk_cell BK1077.out 1).trans rfl, (blk_cell BK1077.out 2).trans rfl⟩ (fun hHeld => ?_)
    clear hK K
    refine norm_ (a' := ?_) ?_ ?_
    rotate_left
    ·show Act.put _ (some 43) _ = _
     simp only [Act.put, List.setIfInBounds_toArray, List.set_cons_zero, List.set_cons_succ, i64_w, i32_w]
     rfl
    refine one_ (i := 3) (N := some 44) #[true, true, true, true, false] rfl rfl (by kernel_rfl) (by decide) (fun K hK => ?_)
    refine goes_ Try.func22 (by kernel_rfl) rfl #[.agg #[.int .i64 t1089, .int .i64 t1090, .slice Ao33 t1091.length co33], .agg #[.int .i64 t1099, .int .i64 t1100, .slice Ao45 t1101.length co45]] (by rfl) rfl rfl zal6 ?_
    with_reducible refine (laws_eqBoard.calls kj15 t1089 t1090 _ _ t1091 t1099 t1100 _ _ t1101 true _ ?side1 ?side2 ?side3 ?side4 A41.out).mono ?_
    (case side1 => exact zal15)
    (case side2 => exact (Kd.R_reads' HO_1095002.out).2.1)
    (case side3 => exact zal16)
    (case side4 => exact (Kd.R_reads' HO1103.out).2.1)
    rintro e w46 ⟨rfl, hb⟩
    refine ⟨_, rfl, ?_⟩
    have n0_ := Aside0.mk (Kd.R_below zal12 hb)
    have n1_ := Aside0.mk (Kd.R_below (by (with_reducible repeat (first | apply Kd.R_alloc | apply Kd.R_drewN | apply Kd.R_drew)); exact HO1103.out) hb)
    have n2_ := Aside0.mk (blk_below (g := gb1077) (o := .cells #[.int .i64 a0_0, .int .i64 a0_1, .slice A0_2 l0_2.length c0_2] 24 (0, 0)) zal2 hb)
    have n3_ := Aside0.mk (blk_below (g := gb1078) (o := .cells #[.int .i64 a1_0, .int .i64 a1_1] 26 (0, 0)) zal4 hb)
    have n4_ := Aside0.mk (blk_below (g := gb1094) (o := .cells #[.int .i64 t1089, .int .i64 t1090, .slice Ao33 t1091.length co33] 30 (0, 0)) zal9 hb)
    have n5_ := Aside0.mk (below_step zal1 hb)
    clear HO_1095002
    clear HO1103
    clear BK1077
    clear BK1078
    clear BK1094
    clear HB
    have HO_1095002 := n0_
    have HO1103 := n1_
    have BK1077 := n2_
    have BK1078 := n3_
    have BK1094 := n4_
    have HB := n5_
    clear n0_ n1_ n2_ n3_ n4_ n5_
    (try clear hb)
    (try clear hb2)
    (try clear hk)
    (try clear hi)
    (try clear hna_)
    (try clear hnb_)
    refine hK.out _ _ ⟨(blk_cell BK1094.out 0).trans rfl, (blk_cell BK1094.out 1).trans rfl, (blk_cell BK1094.out 2).trans rfl, (blk_cell BK1077.out 0).trans rfl, (blk_cell BK1077.out 1).trans rfl, (blk_cell BK1077.out 2).trans rfl⟩ (fun hHeld => ?_)
    clear hK K
    refine norm_ (a' := ?_) ?_ ?_
    rotate_left
    ·show Act.put _ (some 44) _ = _
     simp only [Act.put, List.setIfInBounds_toArray, List.set_cons_zero, List.set_cons_succ, i64_w, i32_w]
     rfl
    refine pure_ (i := 4) (N := some 45) (v := ?_) (a' := ?_) #[true, true, true, true, true] rfl rfl (by kernel_rfl) (fun _ _ _ h => h) (Or.inl ⟨by rfl, ?_⟩) ?_ ?_
    rotate_left
    ·intro w'
     go_simp
     with_reducible rfl
    rotate_left
    ·simp only [Act.put, List.setIfInBounds_toArray, List.set_cons_zero, List.set_cons_succ, i64_w, i32_w]
     rfl
    refine done_ (by kernel_rfl) ?_
    try go_wp2
    go_ret
    exact ⟨zal13, zal1⟩
   replace c42 := Bool.eq_false_iff.mpr c42
   subst c42
   have H1 : (some false) = some r := by rw [if_neg (show ¬ (false = true) by decide)] at H; exact H
   clear H
   have H := H1
   clear H1
   obtain rfl := Option.some.inj H
   try go_wp2
   have n0_ := Aside0.mk (Kd.R_drew HO_1095002.out)
   have n1_ := Aside0.mk (blk_drew BK1077.out)
   have n2_ := Aside0.mk (blk_drew BK1078.out)
   have n3_ := Aside0.mk (blk_drew BK1094.out)
   have n4_ := Aside0.mk (below_drew1 HB.out)
   clear HO_1095002
   clear BK1077
   clear BK1078
   clear BK1094
   clear HB
   have HO_1095002 := n0_
   have BK1077 := n1_
   have BK1078 := n2_
   have BK1094 := n3_
   have HB := n4_
   clear n0_ n1_ n2_ n3_ n4_
   refine start_ (n := 5) (S := fun w' => w'.cell? ⟨gb1094, 0, none⟩ = some (.int .i64 t1089) ∧ w'.cell? ⟨gb1094, 1, none⟩ = some (.int .i64 t1090) ∧ w'.cell? ⟨gb1094, 2, none⟩ = some (.slice Ao33 t1091.length co33) ∧ w'.cell? ⟨gb1077, 0, none⟩ = some (.int .i64 a0_0) ∧ w'.cell? ⟨gb1077, 1, none⟩ = some (.int .i64 a0_1) ∧ w'.cell? ⟨gb1077, 2, none⟩ = some (.slice A0_2 l0_2.length c0_2)) (ds := []) #[false, false, false, false, false] (by kernel_rfl) rfl rfl ⟨(blk_cell BK1094.out 0).trans rfl, (blk_cell BK1094.out 1).trans rfl, (blk_cell BK1094.out 2).trans rfl, (blk_cell BK1077.out 0).trans rfl, (blk_cell BK1077.out 1).trans rfl, (blk_cell BK1077.out 2).trans rfl⟩ (fun hHeld => ?_)
   generalize wc.drew = w47 at HO_1095002 BK1077 BK1078 BK1094 HB hHeld ⊢
   refine take_ (i := 0) (N := some 41) (v := ?_) (a' := ?_) #[true, false, false, false, false] rfl rfl (by kernel_rfl) (fun _ _ _ h => h) (Or.inl ⟨by rfl, ?_⟩) hHeld ?_ ?_
   rotate_left
   ·rintro w' ⟨s0, s1, s2, s3, s4, s5⟩
    go_simp
    with_reducible rfl
   rotate_left
   ·simp only [Act.put, List.setIfInBounds_toArray, List.set_cons_zero, List.set_cons_succ, i64_w, i32_w]
    rfl
   refine take_ (i := 1) (N := some 42) (v := ?_) (a' := ?_) #[true, true, false, false, false] rfl rfl (by kernel_rfl) (fun _ _ _ h => h) (Or.inl ⟨by rfl, ?_⟩) hHeld ?_ ?_
   rotate_left
   ·rintro w' ⟨s0, s1, s2, s3, s4, s5⟩
    go_simp
    with_reducible rfl
   rotate_left
   ·simp only [Act.put, List.setIfInBounds_toArray, List.set_cons_zero, List.set_cons_succ, i64_w, i32_w]
    rfl
   refine one_ (i := 2) (N := some 43) #[true, true, true, false, false] rfl rfl (by kernel_rfl) (by decide) (fun K hK => ?_)
   refine goes_ Try.func17 (by kernel_rfl) rfl #[.agg #[.int .i64 a0_0, .int .i64 a0_1, .slice A0_2 l0_2.length c0_2]] (by rfl) rfl rfl zal6 ?_
   with_reducible refine (laws_toBoard.calls kj15 a0_0 a0_1 _ _ l0_2 t1099 t1100 t1101 _ ?side1 ?side2 A40.out).mono ?_
   (case side1 => exact zal7)
   (case side2 => exact HC0_2.out)
   rintro e w48 ⟨v1102, rfl, ho0, hb⟩
   refine ⟨_, rfl, ?_⟩
   have n0_ := Aside0.mk (Kd.R_elder' zal12 (Kd.R_base ho0) hb)
   have n1_ := Aside0.mk (Kd.R_lower (Kd.R_new' ho0 (Kd.R_lt zal12)) (below_size zal1))
   have n2_ := Aside0.mk (blk_below (g := gb1077) (o := .cells #[.int .i64 a0_0, .int .i64 a0_1, .slice A0_2 l0_2.length c0_2] 24 (0, 0)) zal2 hb)
   have n3_ := Aside0.mk (blk_below (g := gb1078) (o := .cells #[.int .i64 a1_0, .int .i64 a1_1] 26 (0, 0)) zal4 hb)
   have n4_ := Aside0.mk (blk_below (g := gb1094) (o := .cells #[.int .i64 t1089, .int .i64 t1090, .slice Ao33 t1091.length co33] 30 (0, 0)) zal9 hb)
   have n5_ := Aside0.mk (below_step zal1 hb)
   clear HO_1095002
   clear BK1077
   clear BK1078
   clear BK1094
   clear HB
   have HO_1095002 := n0_
   have HO1103 := n1_
   have BK1077 := n2_
   have BK1078 := n3_
   have BK1094 := n4_
   have HB := n5_
   clear n0_ n1_ n2_ n3_ n4_ n5_
   (try clear hb)
   (try clear hb2)
   (try clear hk)
   (try clear hi)
   (try clear ho0)
   (try clear hna_)
   (try clear hnb_)
   obtain ⟨Ao49, co49, eo49⟩ := Kd.R_slice HO1103.out
   (first | subst eo49 | (injection eo49 with f1_ f2_ f3_; have f4_ := f1_.symm; have f5_ := f3_.symm; clear f1_ f2_ f3_; subst f4_; subst f5_))
   refine hK.out _ _ ⟨(blk_cell BK1094.out 0).trans rfl, (blk_cell BK1094.out 1).trans rfl, (blk_cell BK1094.out 2).trans rfl, (blk_cell BK1077.out 0).trans rfl, (blk_cell BK1077.out 1).trans rfl, (blk_cell BK1077.out 2).trans rfl⟩ (fun hHeld => ?_)
   clear hK K
   refine norm_ (a' := ?_) ?_ ?_
   rotate_left
   ·show Act.put _ (some 43) _ = _
    simp only [Act.put, List.setIfInBounds_toArray, List.set_cons_zero, List.set_cons_succ, i64_w, i32_w]
    rfl
   refine one_ (i := 3) (N := some 44) #[true, true, true, true, false] rfl rfl (by kernel_rfl) (by decide) (fun K hK => ?_)
   refine goes_ Try.func22 (by kernel_rfl) rfl #[.agg #[.int .i64 t1089, .int .i64 t1090, .slice Ao33 t1091.length co33], .agg #[.int .i64 t1099, .int .i64 t1100, .slice Ao49 t1101.length co49]] (by rfl) rfl rfl zal6 ?_
   with_reducible refine (laws_eqBoard.calls kj15 t1089 t1090 _ _ t1091 t1099 t1100 _ _ t1101 false _ ?side1 ?side2 ?side3 ?side4 A41.out).mono ?_
   (case side1 => exact zal15)
   (case side2 => exact (Kd.R_reads' HO_1095002.out).2.1)
   (case side3 => exact zal16)
   (case side4 => exact (Kd.R_reads' HO1103.out).2.1)
   rintro e w50 ⟨rfl, hb⟩
   refine ⟨_, rfl, ?_⟩
   have n0_ := Aside0.mk (Kd.R_below zal12 hb)
   have n1_ := Aside0.mk (Kd.R_below (by (with_reducible repeat (first | apply Kd.R_alloc | apply Kd.R_drewN | apply Kd.R_drew)); exact HO1103.out) hb)
   have n2_ := Aside0.mk (blk_below (g := gb1077) (o := .cells #[.int .i64 a0_0, .int .i64 a0_1, .slice A0_2 l0_2.length c0_2] 24 (0, 0)) zal2 hb)
   have n3_ := Aside0.mk (blk_below (g := gb1078) (o := .cells #[.int .i64 a1_0, .int .i64 a1_1] 26 (0, 0)) zal4 hb)
   have n4_ := Aside0.mk (blk_below (g := gb1094) (o := .cells #[.int .i64 t1089, .int .i64 t1090, .slice Ao33 t1091.length co33] 30 (0, 0)) zal9 hb)
   have n5_ := Aside0.mk (below_step zal1 hb)
   clear HO_1095002
   clear HO1103
   clear BK1077
   clear BK1078
   clear BK1094
   clear HB
   have HO_1095002 := n0_
   have HO1103 := n1_
   have BK1077 := n2_
   have BK1078 := n3_
   have BK1094 := n4_
   have HB := n5_
   clear n0_ n1_ n2_ n3_ n4_ n5_
   (try clear hb)
   (try clear hb2)
   (try clear hk)
   (try clear hi)
   (try clear hna_)
   (try clear hnb_)
   refine hK.out _ _ ⟨(blk_cell BK1094.out 0).trans rfl, (blk_cell BK1094.out 1).trans rfl, (blk_cell BK1094.out 2).trans rfl, (blk_cell BK1077.out 0).trans rfl, (blk_cell BK1077.out 1).trans rfl, (blk_cell BK1077.out 2).trans rfl⟩ (fun hHeld => ?_)
   clear hK K
   refine norm_ (a' := ?_) ?_ ?_
   rotate_left
   ·show Act.put _ (some 44) _ = _
    simp only [Act.put, List.setIfInBounds_toArray, List.set_cons_zero, List.set_cons_succ, i64_w, i32_w]
    rfl
   refine pure_ (i := 4) (N := some 45) (v := ?_) (a' := ?_) #[true, true, true, true, true] rfl rfl (by kernel_rfl) (fun _ _ _ h => h) (Or.inl ⟨by rfl, ?_⟩) ?_ ?_
   rotate_left
   ·intro w'
    go_simp
    with_reducible rfl
   rotate_left
   ·simp only [Act.put, List.setIfInBounds_toArray, List.set_cons_zero, List.set_cons_succ, i64_w, i32_w]
    rfl
   refine done_ (by kernel_rfl) ?_
   try go_wp2
   go_ret
   exact ⟨zal13, zal1⟩

end Go.Proofs.Ytjeongckkfkehaa.Q

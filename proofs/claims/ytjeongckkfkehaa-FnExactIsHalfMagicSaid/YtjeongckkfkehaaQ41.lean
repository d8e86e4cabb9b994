/- Written by a program of this session: functions of the translation as plain Lean functions, each with a proof that the call does what the plain function says; the conditions stand in each theorem. -/
import Derived.Test.YtjeongckkfkehaaQ0
import Derived.Test.YtjeongckkfkehaaQ1
import Derived.Test.YtjeongckkfkehaaQ2
import Derived.Test.YtjeongckkfkehaaQ5
import Derived.Test.YtjeongckkfkehaaQ39
import Derived.Test.YtjeongckkfkehaaQ40
namespace Go.Proofs.Ytjeongckkfkehaa.Q
open Go.RowKit Go.Proofs.YtjeongckkfkehaaW.PrintWords Go.Proofs.YtjeongckkfkehaaW.PrintLast Go.Proofs.YtjeongckkfkehaaW.PrintMore
attribute [local go_sem] max2_int min2_int max_two min_two max_three min_three max_four min_four   -- for this text's walks alone
set_option linter.unusedVariables false
set_option linter.unusedSimpArgs false

theorem zap1 {p : Prop} (h : p := by repeat (first | (with_reducible first | exact HB.out | apply below_alloc | apply pw_below_drewN | apply below_drew1 | refine below_set ?_ GE1174.out | refine below_set ?_ GE1175.out | refine below_set ?_ GE1194.out) | exact HB.out)) : p := h
theorem zap2 {p : Prop} (h : p := by (with_reducible repeat (first | refine blk_drewN ?_ _ | refine blk_drew ?_ | refine blk_alloc ?_ _)); exact BK1174.out) : p := h
theorem zap3 {p : Prop} (h : p := by repeat (first | (with_reducible first | exact HB.out | apply below_alloc | apply pw_below_drewN | apply below_drew1 | refine below_set ?_ GE1174.out | refine below_set ?_ GE1175.out) | exact HB.out)) : p := h
theorem zap4 {p : Prop} (h : p := by (try simp only [List.map_toArray, List.map_cons, List.map_nil]); first | done | rfl | (simp only [List.length_drop, List.length_take]; rfl)) : p := h
theorem zap5 {p : Prop} (h : p := by (with_reducible repeat (first | refine blk_drewN ?_ _ | refine blk_drew ?_ | refine blk_alloc ?_ _)); exact BK1175.out) : p := h
theorem zap7 {p : Prop} (h : p := by repeat (first | (with_reducible first | exact HB.out | apply below_alloc | apply pw_below_drewN | apply below_drew1 | refine below_set ?_ GE1174.out) | exact HB.out)) : p := h
theorem zap8 {p : Prop} (h : p := by (with_reducible repeat (first | apply Kd.R_alloc | apply Kd.R_drewN | apply Kd.R_drew)); exact HO_1195002.out) : p := h
theorem zap9 {p : Prop} (h : p := by (with_reducible repeat (first | refine blk_drewN ?_ _ | refine blk_drew ?_ | refine blk_alloc ?_ _)); exact BK1194.out) : p := h
theorem zap10 {p : Prop} (h : p := by (with_reducible repeat (first | apply Kd.R_alloc | apply Kd.R_drewN | apply Kd.R_drew)); exact HO_11.out) : p := h
theorem zap11 {p : Prop} (h : p := by repeat (first | (with_reducible first | exact HB.out | apply below_alloc | apply pw_below_drewN | apply below_drew1) | exact HB.out)) : p := h
theorem zap12 {p : Prop} (h : p := by repeat (first | exact (Kd.C_below HR0_2.out HB.out) | (with_reducible refine Kd.C_alloc ?_ _) | (with_reducible refine Kd.C_drewN ?_ _) | (with_reducible refine Kd.C_drew ?_))) : p := h
theorem zap13 {p : Prop} (h : p := by (with_reducible repeat (first | apply Kd.R_alloc | apply Kd.R_drewN | apply Kd.R_drew)); exact HO1181.out) : p := h
theorem zap14 {p : Prop} (h : p := by (with_reducible repeat (first | apply Kd.R_alloc | apply Kd.R_drewN | apply Kd.R_drew)); exact HO1206.out) : p := h
theorem zap15 {p : Prop} (h : p := by (with_reducible repeat (first | apply Kd.R_alloc | apply Kd.R_drewN | apply Kd.R_drew)); exact HO1186.out) : p := h
theorem zap16 {p : Prop} (h : p := by first | rfl | (simp [errW_none, errW_some] <;> rfl) | (simp [*, errW_none, errW_some] <;> rfl)) : p := h
theorem zap17 {p : Prop} (h : p := by (with_reducible repeat (first | apply Kd.R_alloc | apply Kd.R_drewN | apply Kd.R_drew)); exact (Kd.R_mono (Kd.R_far (p := ⟨gb1194, 2, none⟩) (Kd.R_far (p := ⟨gb1194, 1, none⟩) (Kd.R_far (p := ⟨gb1194, 0, none⟩) (Kd.R_types HO1193.out BK1194.out (by decide)) (fun _ hk => hk.2) (.int .i64 t1189)) (fun _ hk => hk.2) (.int .i64 t1190)) (fun _ hk => hk.2) (.slice Ao41 t1191.length co41)) (fun _ h_ => h_.1))) : p := h
theorem zap18 {p : Prop} (h : p := by (with_reducible repeat (first | apply Kd.R_alloc | apply Kd.R_drewN | apply Kd.R_drew)); exact (Kd.R_mono (Kd.R_far (p := ⟨gb1194, 2, none⟩) (Kd.R_far (p := ⟨gb1194, 1, none⟩) (Kd.R_far (p := ⟨gb1194, 0, none⟩) (Kd.R_types HO1186.out BK1194.out (by decide)) (fun _ hk => hk.2) (.int .i64 t1189)) (fun _ hk => hk.2) (.int .i64 t1190)) (fun _ hk => hk.2) (.slice Ao41 t1191.length co41)) (fun _ h_ => h_.1))) : p := h
theorem zap19 {p : Prop} (h : p := by (with_reducible repeat (first | apply Kd.R_alloc | apply Kd.R_drewN | apply Kd.R_drew)); exact (Kd.R_mono (Kd.R_far (p := ⟨gb1194, 2, none⟩) (Kd.R_far (p := ⟨gb1194, 1, none⟩) (Kd.R_far (p := ⟨gb1194, 0, none⟩) (Kd.R_types HO1181.out BK1194.out (by decide)) (fun _ hk => hk.2) (.int .i64 t1189)) (fun _ hk => hk.2) (.int .i64 t1190)) (fun _ hk => hk.2) (.slice Ao41 t1191.length co41)) (fun _ h_ => h_.1))) : p := h
theorem zap20 {p : Prop} (h : p := by repeat (first | exact (Kd.R_reads' HO_1195002.out).2.2 | (with_reducible refine Kd.C_alloc ?_ _) | (with_reducible refine Kd.C_drewN ?_ _) | (with_reducible refine Kd.C_drew ?_))) : p := h
theorem zap21 {p : Prop} (h : p := by repeat (first | exact (Kd.R_reads' HO1206.out).2.2 | (with_reducible refine Kd.C_alloc ?_ _) | (with_reducible refine Kd.C_drewN ?_ _) | (with_reducible refine Kd.C_drew ?_))) : p := h
theorem zap22 {p : Prop} (h : p := by repeat (first | exact (Kd.C_below HR2.out HB.out) | (with_reducible refine Kd.C_alloc ?_ _) | (with_reducible refine Kd.C_drewN ?_ _) | (with_reducible refine Kd.C_drew ?_))) : p := h
theorem zap23 {p : Prop} (h : p := by (with_reducible repeat (first | apply Kd.R_alloc | apply Kd.R_drewN | apply Kd.R_drew)); exact HO1193.out) : p := h
theorem zap24 {p : Prop} (h : p := by repeat (first | exact (Kd.R_reads' HO1210.out).2.2 | (with_reducible refine Kd.C_alloc ?_ _) | (with_reducible refine Kd.C_drewN ?_ _) | (with_reducible refine Kd.C_drew ?_))) : p := h
theorem zap25 {p : Prop} (h : p := by repeat (first | exact (Kd.R_reads' HO_11.out).2.2 | (with_reducible refine Kd.C_alloc ?_ _) | (with_reducible refine Kd.C_drewN ?_ _) | (with_reducible refine Kd.C_drew ?_))) : p := h
theorem zap26 {p : Prop} (h : p := by (with_reducible repeat (first | apply Kd.R_alloc | apply Kd.R_drewN | apply Kd.R_drew)); exact Kd.R_mono HO1197.out (fun _ hk => hk.2)) : p := h
theorem zap27 {p : Prop} (h : p := by (with_reducible repeat (first | apply Kd.R_alloc | apply Kd.R_drewN | apply Kd.R_drew)); exact Kd.R_mono HO1193.out (fun _ hk => hk.2)) : p := h
theorem zap28 {p : Prop} (h : p := by rw [hg]; exact Nat.ne_of_lt (blk_lt (g := gb1174) (o := .cells #[.int .i64 a0_0, .int .i64 a0_1, .slice A0_2 l0_2.length c0_2] 24 (0, 0)) zap2)) : p := h
theorem zap29 {p : Prop} (h : p := by rw [hg]; exact Nat.ne_of_gt (blk_lt (g := gb1174) (o := .cells #[.int .i64 a0_0, .int .i64 a0_1, .slice A0_2 l0_2.length c0_2] 24 (0, 0)) zap2)) : p := h
theorem zap30 {p : Prop} (h : p := by rw [hg]; exact (below_size zap11)) : p := h
theorem zap31 {p : Prop} (h : p := by rw [hg]; exact (below_size zap7)) : p := h
/-! ### laws_FnExactIsHalfMagic: function 11 -/
def laws_FnExactIsHalfMagic.j0 : Nat → List Int → List Int → Bool → Int → Int → List Int → Int → Int → List Int → Option (Bool)
 | 0, _, _, _, _, _, _, _, _, _ => none
 | k + 1, x2, x11, x51, x1175000, x1175001, x1175002, x1195000, x1195001, x1195002 => if x51 = true then (some false) else ((laws_toBoard.f k x1175000 x1175001 x1175002).bind fun bt1202 => ((laws_eqBoard.f k x1195000 x1195001 x1195002 bt1202.1 bt1202.2.1 bt1202.2.2).bind fun t1207 => (if t1207 = true then ((laws_toIntS.f k x2).bind fun t1208 => ((laws_eqIntS.f k x11 t1208).bind fun t1211 => (if t1211 = true then (some true) else (some false)))) else (some false))))
def laws_FnExactIsHalfMagic.f (k : Nat) (a0_0 : Int) (a0_1 : Int) (l0_2 : List Int) (a1_0 : Int) (a1_1 : Int) (l2 : List Int) : Option (Bool) := if (l2.length : Int) > 1048576 then (some true) else ((laws_szBoard.f a0_0 a0_1 l0_2 1048576).bind fun t1176 => (if t1176 < 0 then (some true) else ((laws_toBoard.f k a0_0 a0_1 l0_2).bind fun bt1177 => ((laws_toLeaper.f a1_0 a1_1).bind fun bt1182 => ((laws_toIntS.f k l2).bind fun t1184 => ((spec_IsHalfMagic.f k bt1177.1 bt1177.2.1 bt1177.2.2 bt1182.1 bt1182.2 t1184).bind fun bt1187 => ((laws_toBoard.f k a0_0 a0_1 l0_2).bind fun bt1189 => ((laws_toIntS.f k l2).bind fun t1195 => ((laws_toLeaper.f a1_0 a1_1).bind fun bt1198 => ((impl_IsHalfMagic.f k bt1189.1 bt1189.2.1 bt1189.2.2 bt1198.1 bt1198.2 t1195).bind fun bt1200 => (if (bt1200.1 != bt1187.1) = true then (laws_FnExactIsHalfMagic.j0 k l2 t1195 true a0_0 a0_1 l0_2 bt1189.1 bt1189.2.1 bt1189.2.2) else (laws_FnExactIsHalfMagic.j0 k l2 t1195 (bt1200.2 != bt1187.2) a0_0 a0_1 l0_2 bt1189.1 bt1189.2.1 bt1189.2.2))))))))))))
def laws_FnExactIsHalfMagic.T7 : Bool × List (List Nat × List Nat) := (true, [([], []), ([0], [0]), ([], []), ([2, 1], [2]), ([], []), ([4, 3], [4]), ([1, 3, 5, 5], [1, 3, 5]), ([6], [6]), ([7], [7]), ([7], [7]), ([8, 6, 0, 1, 2, 3, 4, 5, 6, 7, 8], [8]), ([9, 10, 0, 1, 2, 3, 4, 5, 6, 7, 8, 9, 10], [9])])
def laws_FnExactIsHalfMagic.B7 : List Nat := [0, 1, 0, 7, 0, 31, 63, 127, 255, 255, 511, 2047]
theorem laws_FnExactIsHalfMagic.tab7 : rtab .any (opsOf Try.f11 7) = laws_FnExactIsHalfMagic.T7 := by kernel_rfl
theorem laws_FnExactIsHalfMagic.bits7 : waitsOk laws_FnExactIsHalfMagic.T7.2 laws_FnExactIsHalfMagic.B7 = true := by kernel_rfl
def laws_FnExactIsHalfMagic.T10 : Bool × List (List Nat × List Nat) := (true, [([], []), ([], []), ([1], [1]), ([], []), ([0, 2, 3, 2], [0, 2, 3]), ([4], [4]), ([5], [5]), ([5], [5]), ([6, 4, 0, 1, 2, 3, 4, 5, 6], [6]), ([7, 8, 0, 1, 2, 3, 4, 5, 6, 7, 8], [7])])
def laws_FnExactIsHalfMagic.B10 : List Nat := [0, 0, 2, 0, 15, 31, 63, 63, 127, 511]
theorem laws_FnExactIsHalfMagic.tab10 : rtab .any (opsOf Try.f11 10) = laws_FnExactIsHalfMagic.T10 := by kernel_rfl
theorem laws_FnExactIsHalfMagic.bits10 : waitsOk laws_FnExactIsHalfMagic.T10.2 laws_FnExactIsHalfMagic.B10 = true := by kernel_rfl
set_option maxHeartbeats 8000000 in
set_option maxRecDepth 100000 in
theorem laws_FnExactIsHalfMagic.calls (k : Nat) (a0_0 : Int) (a0_1 : Int) (A0_2 : Option Addr) (c0_2 : Nat) (l0_2 : List Int) (a1_0 : Int) (a1_1 : Int) (A2 : Option Addr) (c2 : Nat) (l2 : List Int) (r : Bool) (w : World) (hr0_2 : Kd.C (Kd.int .i64) w A0_2 l0_2.length l0_2) (hc0_2 : l0_2.length ≤ c0_2) (hr2 : Kd.C (Kd.int .i64) w A2 l2.length l2) (hc2 : l2.length ≤ c2) (h : laws_FnExactIsHalfMagic.f k a0_0 a0_1 l0_2 a1_0 a1_1 l2 = some r) :
  Calls Try.prog 11 #[.agg #[.int .i64 a0_0, .int .i64 a0_1, .slice A0_2 l0_2.length c0_2], .agg #[.int .i64 a1_0, .int .i64 a1_1], .slice A2 l2.length c2] w fun e w' => e = .returned (.bool r) ∧ Below w.heap.size w w' := by
 have hu24 := Try.underlying24
 have hu26 := Try.underlying26
 have hu30 := Try.underlying30
 have HR0_2 := Aside0.mk hr0_2
 have HC0_2 := Aside0.mk hc0_2
 clear hr0_2 hc0_2
 have HR2 := Aside0.mk hr2
 have HC2 := Aside0.mk hc2
 clear hr2 hc2
 have HB := Aside0.mk (Below.refl w.heap.size w)
 have H : (if (l2.length : Int) > 1048576 then (some true) else ((laws_szBoard.f a0_0 a0_1 l0_2 1048576).bind fun t1176 => (if t1176 < 0 then (some true) else ((laws_toBoard.f k a0_0 a0_1 l0_2).bind fun bt1177 => ((laws_toLeaper.f a1_0 a1_1).bind fun bt1182 => ((laws_toIntS.f k l2).bind fun t1184 => ((spec_IsHalfMagic.f k bt1177.1 bt1177.2.1 bt1177.2.2 bt1182.1 bt1182.2 t1184).bind fun bt1187 => ((laws_toBoard.f k a0_0 a0_1 l0_2).bind fun bt1189 => ((laws_toIntS.f k l2).bind fun t1195 => ((laws_toLeaper.f a1_0 a1_1).bind fun bt1198 => ((impl_IsHalfMagic.f k bt1189.1 bt1189.2.1 bt1189.2.2 bt1198.1 bt1198.2 t1195).bind fun bt1200 => (if (bt1200.1 != bt1187.1) = true then (laws_FnExactIsHalfMagic.j0 k l2 t1195 true a0_0 a0_1 l0_2 bt1189.1 bt1189.2.1 bt1189.2.2) else (laws_FnExactIsHalfMagic.j0 k l2 t1195 (bt1200.2 != bt1187.2) a0_0 a0_1 l0_2 bt1189.1 bt1189.2.1 bt1189.2.2))))))))))))) = some r := h
 clear h
 by_cases c4 : (l2.length : Int) > 1048576
 ·rw [if_pos c4] at H
  have c4b0 : decide (1048576 < (l2.length : Int)) = true := decide_eq_true c4
  have c4b1 : decide (1048576 < l2.length) = true := decide_eq_true (by omega)
  clear c4
  obtain rfl := Option.some.inj H
  go_enter Try.func11, Try.ntmps11
  go_wp2_with (first | ((with_reducible refine gate_dst (N := 3) rfl ?_); refine box_event ?hg (N := 3) ?hd (cs := #[.int .i64 a0_0, .int .i64 a0_1, .slice A0_2 l0_2.length c0_2]) (t := 24) ?hr ?_; (case hd => rfl); (case hg => rfl); (case hr => first | (go_simp; done) | (go_simp; rfl)); intro gb1174 hg w5 hbox hb; have n0_ := Aside0.mk (below_step zap11 hb); have n1_ := Aside0.mk (hbox); have n2_ := Aside0.mk ((zap30 : w.heap.size ≤ gb1174)); have n3_ := Aside0.mk ((zap30 : w.heap.size ≤ gb1174)); clear HB; have HB := n0_; have BK1174 := n1_; have GW1174 := n2_; have GE1174 := n3_; clear n0_ n1_ n2_ n3_; clear hb hbox hg) | ((with_reducible refine gate_dst (N := 4) rfl ?_); refine box_event ?hg (N := 4) ?hd (cs := #[.int .i64 a1_0, .int .i64 a1_1]) (t := 26) ?hr ?_; (case hd => rfl); (case hg => rfl); (case hr => first | (go_simp; done) | (go_simp; rfl)); intro gb1175 hg w6 hbox hb; have n0_ := Aside0.mk (blk_below (g := gb1174) (o := .cells #[.int .i64 a0_0, .int .i64 a0_1, .slice A0_2 l0_2.length c0_2] 24 (0, 0)) zap2 hb); have n1_ := Aside0.mk (below_step zap7 hb); have n2_ := Aside0.mk (hbox); have n3_ := Aside0.mk ((zap31 : w.heap.size ≤ gb1175)); have n4_ := Aside0.mk ((zap31 : w.heap.size ≤ gb1175)); have n5_ := Aside0.mk ((zap28 : gb1174 ≠ gb1175)); have n6_ := Aside0.mk ((zap29 : gb1175 ≠ gb1174)); clear BK1174; clear HB; have BK1174 := n0_; have HB := n1_; have BK1175 := n2_; have GW1175 := n3_; have GE1175 := n4_; have NB1174_1175 := n5_; have NB1175_1174 := n6_; clear n0_ n1_ n2_ n3_ n4_ n5_ n6_; clear hb hbox hg))
  go_ret
  exact ⟨zap16, zap3⟩
 rw [if_neg c4] at H
 have c4b0 : decide (1048576 < (l2.length : Int)) = false := decide_eq_false c4
 have c4b1 : decide (1048576 < l2.length) = false := decide_eq_false (by omega)
 clear c4
 replace H := Option.bind_eq_some_iff.mp H
 obtain ⟨t1176, A70, H⟩ := H
 replace H : (if t1176 < 0 then (some true) else ((laws_toBoard.f k a0_0 a0_1 l0_2).bind fun bt1177 => ((laws_toLeaper.f a1_0 a1_1).bind fun bt1182 => ((laws_toIntS.f k l2).bind fun t1184 => ((spec_IsHalfMagic.f k bt1177.1 bt1177.2.1 bt1177.2.2 bt1182.1 bt1182.2 t1184).bind fun bt1187 => ((laws_toBoard.f k a0_0 a0_1 l0_2).bind fun bt1189 => ((laws_toIntS.f k l2).bind fun t1195 => ((laws_toLeaper.f a1_0 a1_1).bind fun bt1198 => ((impl_IsHalfMagic.f k bt1189.1 bt1189.2.1 bt1189.2.2 bt1198.1 bt1198.2 t1195).bind fun bt1200 => (if (bt1200.1 != bt1187.1) = true then (laws_FnExactIsHalfMagic.j0 k l2 t1195 true a0_0 a0_1 l0_2 bt1189.1 bt1189.2.1 bt1189.2.2) else (laws_FnExactIsHalfMagic.j0 k l2 t1195 (bt1200.2 != bt1187.2) a0_0 a0_1 l0_2 bt1189.1 bt1189.2.1 bt1189.2.2))))))))))) = some r := H
 have A7 := Aside0.mk A70
 clear A70
 by_cases c8 : t1176 < 0
 ·rw [if_pos c8] at H
  have c8b0 : decide (t1176 < 0) = true := decide_eq_true c8
  clear c8
  obtain rfl := Option.some.inj H
  go_enter Try.func11, Try.ntmps11
  go_wp2_with (first | ((with_reducible refine gate_dst (N := 3) rfl ?_); refine box_event ?hg (N := 3) ?hd (cs := #[.int .i64 a0_0, .int .i64 a0_1, .slice A0_2 l0_2.length c0_2]) (t := 24) ?hr ?_; (case hd => rfl); (case hg => rfl); (case hr => first | (go_simp; done) | (go_simp; rfl)); intro gb1174 hg w9 hbox hb; have n0_ := Aside0.mk (below_step zap11 hb); have n1_ := Aside0.mk (hbox); have n2_ := Aside0.mk ((zap30 : w.heap.size ≤ gb1174)); have n3_ := Aside0.mk ((zap30 : w.heap.size ≤ gb1174)); clear HB; have HB := n0_; have BK1174 := n1_; have GW1174 := n2_; have GE1174 := n3_; clear n0_ n1_ n2_ n3_; clear hb hbox hg) | ((with_reducible refine gate_dst (N := 4) rfl ?_); refine box_event ?hg (N := 4) ?hd (cs := #[.int .i64 a1_0, .int .i64 a1_1]) (t := 26) ?hr ?_; (case hd => rfl); (case hg => rfl); (case hr => first | (go_simp; done) | (go_simp; rfl)); intro gb1175 hg w10 hbox hb; have n0_ := Aside0.mk (blk_below (g := gb1174) (o := .cells #[.int .i64 a0_0, .int .i64 a0_1, .slice A0_2 l0_2.length c0_2] 24 (0, 0)) zap2 hb); have n1_ := Aside0.mk (below_step zap7 hb); have n2_ := Aside0.mk (hbox); have n3_ := Aside0.mk ((zap31 : w.heap.size ≤ gb1175)); have n4_ := Aside0.mk ((zap31 : w.heap.size ≤ gb1175)); have n5_ := Aside0.mk ((zap28 : gb1174 ≠ gb1175)); have n6_ := Aside0.mk ((zap29 : gb1175 ≠ gb1174)); clear BK1174; clear HB; have BK1174 := n0_; have HB := n1_; have BK1175 := n2_; have GW1175 := n3_; have GE1175 := n4_; have NB1174_1175 := n5_; have NB1175_1174 := n6_; clear n0_ n1_ n2_ n3_ n4_ n5_ n6_; clear hb hbox hg; have hnb11 := NB1174_1175.out; have hnc11 := NB1175_1174.out; have hcz12_0 : w10.cell? ⟨gb1174, 0, none⟩ = some (.int .i64 a0_0) := (blk_cell BK1174.out 0).trans rfl; have hcz12_1 : w10.cell? ⟨gb1174, 1, none⟩ = some (.int .i64 a0_1) := (blk_cell BK1174.out 1).trans rfl; have hcz12_2 : w10.cell? ⟨gb1174, 2, none⟩ = some (.slice A0_2 l0_2.length c0_2) := (blk_cell BK1174.out 2).trans rfl; have hfz12_0 := blk_frozen BK1174.out 0; have hfz12_1 := blk_frozen BK1174.out 1; have hfz12_2 := blk_frozen BK1174.out 2) | ((with_reducible refine gate_callee (f := 15) rfl ?_); refine goesL_ (some 19) rfl rfl Try.func15 (by kernel_rfl) rfl #[.agg #[.int .i64 a0_0, .int .i64 a0_1, .slice A0_2 l0_2.length c0_2], .int .i64 1048576] rfl zap4 ?_; (with_reducible refine (laws_szBoard.calls a0_0 a0_1 _ _ l0_2 1048576 t1176 _ ?side1 ?side2 A7.out).mono ?_); (case side1 => exact zap12); (case side2 => exact HC0_2.out); rintro e w13 ⟨rfl, hb⟩; refine ⟨_, rfl, ?_⟩; have n0_ := Aside0.mk (blk_below (g := gb1174) (o := .cells #[.int .i64 a0_0, .int .i64 a0_1, .slice A0_2 l0_2.length c0_2] 24 (0, 0)) zap2 hb); have n1_ := Aside0.mk (blk_below (g := gb1175) (o := .cells #[.int .i64 a1_0, .int .i64 a1_1] 26 (0, 0)) zap5 hb); have n2_ := Aside0.mk (below_step zap3 hb); clear BK1174; clear BK1175; clear HB; have BK1174 := n0_; have BK1175 := n1_; have HB := n2_; clear n0_ n1_ n2_; (try clear hb); (try clear hb2); (try clear hk); (try clear hi); (try clear hna_); (try clear hnb_)))
  go_ret
  exact ⟨zap16, zap3⟩
 rw [if_neg c8] at H
 have c8b0 : decide (t1176 < 0) = false := decide_eq_false c8
 clear c8
 replace H := Option.bind_eq_some_iff.mp H
 obtain ⟨⟨t1177, t1178, t1179⟩, A140, H⟩ := H
 replace H : ((laws_toLeaper.f a1_0 a1_1).bind fun bt1182 => ((laws_toIntS.f k l2).bind fun t1184 => ((spec_IsHalfMagic.f k t1177 t1178 t1179 bt1182.1 bt1182.2 t1184).bind fun bt1187 => ((laws_toBoard.f k a0_0 a0_1 l0_2).bind fun bt1189 => ((laws_toIntS.f k l2).bind fun t1195 => ((laws_toLeaper.f a1_0 a1_1).bind fun bt1198 => ((impl_IsHalfMagic.f k bt1189.1 bt1189.2.1 bt1189.2.2 bt1198.1 bt1198.2 t1195).bind fun bt1200 => (if (bt1200.1 != bt1187.1) = true then (laws_FnExactIsHalfMagic.j0 k l2 t1195 true a0_0 a0_1 l0_2 bt1189.1 bt1189.2.1 bt1189.2.2) else (laws_FnExactIsHalfMagic.j0 k l2 t1195 (bt1200.2 != bt1187.2) a0_0 a0_1 l0_2 bt1189.1 bt1189.2.1 bt1189.2.2))))))))) = some r := H
 have A14 := Aside0.mk A140
 clear A140
 replace H := Option.bind_eq_some_iff.mp H
 obtain ⟨⟨t1182, t1183⟩, A150, H⟩ := H
 replace H : ((laws_toIntS.f k l2).bind fun t1184 => ((spec_IsHalfMagic.f k t1177 t1178 t1179 t1182 t1183 t1184).bind fun bt1187 => ((laws_toBoard.f k a0_0 a0_1 l0_2).bind fun bt1189 => ((laws_toIntS.f k l2).bind fun t1195 => ((laws_toLeaper.f a1_0 a1_1).bind fun bt1198 => ((impl_IsHalfMagic.f k bt1189.1 bt1189.2.1 bt1189.2.2 bt1198.1 bt1198.2 t1195).bind fun bt1200 => (if (bt1200.1 != bt1187.1) = true then (laws_FnExactIsHalfMagic.j0 k l2 t1195 true a0_0 a0_1 l0_2 bt1189.1 bt1189.2.1 bt1189.2.2) else (laws_FnExactIsHalfMagic.j0 k l2 t1195 (bt1200.2 != bt1187.2) a0_0 a0_1 l0_2 bt1189.1 bt1189.2.1 bt1189.2.2)))))))) = some r := H
 have A15 := Aside0.mk A150
 clear A150
 replace H := Option.bind_eq_some_iff.mp H
 obtain ⟨t1184, A160, H⟩ := H
 replace H : ((spec_IsHalfMagic.f k t1177 t1178 t1179 t1182 t1183 t1184).bind fun bt1187 => ((laws_toBoard.f k a0_0 a0_1 l0_2).bind fun bt1189 => ((laws_toIntS.f k l2).bind fun t1195 => ((laws_toLeaper.f a1_0 a1_1).bind fun bt1198 => ((impl_IsHalfMagic.f k bt1189.1 bt1189.2.1 bt1189.2.2 bt1198.1 bt1198.2 t1195).bind fun bt1200 => (if (bt1200.1 != bt1187.1) = true then (laws_FnExactIsHalfMagic.j0 k l2 t1195 true a0_0 a0_1 l0_2 bt1189.1 bt1189.2.1 bt1189.2.2) else (laws_FnExactIsHalfMagic.j0 k l2 t1195 (bt1200.2 != bt1187.2) a0_0 a0_1 l0_2 bt1189.1 bt1189.2.1 bt1189.2.2))))))) = some r := H
 have A16 := Aside0.mk A160
 clear A160
 replace H := Option.bind_eq_some_iff.mp H
 obtain ⟨⟨t1187, t1188⟩, A170, H⟩ := H
 replace H : ((laws_toBoard.f k a0_0 a0_1 l0_2).bind fun bt1189 => ((laws_toIntS.f k l2).bind fun t1195 => ((laws_toLeaper.f a1_0 a1_1).bind fun bt1198 => ((impl_IsHalfMagic.f k bt1189.1 bt1189.2.1 bt1189.2.2 bt1198.1 bt1198.2 t1195).bind fun bt1200 => (if (bt1200.1 != t1187) = true then (laws_FnExactIsHalfMagic.j0 k l2 t1195 true a0_0 a0_1 l0_2 bt1189.1 bt1189.2.1 bt1189.2.2) else (laws_FnExactIsHalfMagic.j0 k l2 t1195 (bt1200.2 != t1188) a0_0 a0_1 l0_2 bt1189.1 bt1189.2.1 bt1189.2.2)))))) = some r := H
 have A17 := Aside0.mk A170
 clear A170
 replace H := Option.bind_eq_some_iff.mp H
 obtain ⟨⟨t1189, t1190, t1191⟩, A180, H⟩ := H
 replace H : ((laws_toIntS.f k l2).bind fun t1195 => ((laws_toLeaper.f a1_0 a1_1).bind fun bt1198 => ((impl_IsHalfMagic.f k t1189 t1190 t1191 bt1198.1 bt1198.2 t1195).bind fun bt1200 => (if (bt1200.1 != t1187) = true then (laws_FnExactIsHalfMagic.j0 k l2 t1195 true a0_0 a0_1 l0_2 t1189 t1190 t1191) else (laws_FnExactIsHalfMagic.j0 k l2 t1195 (bt1200.2 != t1188) a0_0 a0_1 l0_2 t1189 t1190 t1191))))) = some r := H
 have A18 := Aside0.mk A180
 clear A180
 replace H := Option.bind_eq_some_iff.mp H
 obtain ⟨t1195, A190, H⟩ := H
 replace H : ((laws_toLeaper.f a1_0 a1_1).bind fun bt1198 => ((impl_IsHalfMagic.f k t1189 t1190 t1191 bt1198.1 bt1198.2 t1195).bind fun bt1200 => (if (bt1200.1 != t1187) = true then (laws_FnExactIsHalfMagic.j0 k l2 t1195 true a0_0 a0_1 l0_2 t1189 t1190 t1191) else (laws_FnExactIsHalfMagic.j0 k l2 t1195 (bt1200.2 != t1188) a0_0 a0_1 l0_2 t1189 t1190 t1191)))) = some r := H
 have A19 := Aside0.mk A190
 clear A190
 replace H := Option.bind_eq_some_iff.mp H
 obtain ⟨⟨t1198, t1199⟩, A200, H⟩ := H
 replace H : ((impl_IsHalfMagic.f k t1189 t1190 t1191 t1198 t1199 t1195).bind fun bt1200 => (if (bt1200.1 != t1187) = true then (laws_FnExactIsHalfMagic.j0 k l2 t1195 true a0_0 a0_1 l0_2 t1189 t1190 t1191) else (laws_FnExactIsHalfMagic.j0 k l2 t1195 (bt1200.2 != t1188) a0_0 a0_1 l0_2 t1189 t1190 t1191))) = some r := H
 have A20 := Aside0.mk A200
 clear A200
 replace H := Option.bind_eq_some_iff.mp H
 obtain ⟨⟨t1200, t1201⟩, A210, H⟩ := H
 replace H : (if (t1200 != t1187) = true then (laws_FnExactIsHalfMagic.j0 k l2 t1195 true a0_0 a0_1 l0_2 t1189 t1190 t1191) else (laws_FnExactIsHalfMagic.j0 k l2 t1195 (t1201 != t1188) a0_0 a0_1 l0_2 t1189 t1190 t1191)) = some r := H
 have A21 := Aside0.mk A210
 clear A210
 have HC22 := Aside0.mk H
 clear H
 go_enter Try.func11, Try.ntmps11
 try go_wp2_with (first | ((with_reducible refine gate_dst (N := 3) rfl ?_); refine box_event ?hg (N := 3) ?hd (cs := #[.int .i64 a0_0, .int .i64 a0_1, .slice A0_2 l0_2.length c0_2]) (t := 24) ?hr ?_; (case hd => rfl); (case hg => rfl); (case hr => first | (go_simp; done) | (go_simp; rfl)); intro gb1174 hg w23 hbox hb; have n0_ := Aside0.mk (below_step zap11 hb); have n1_ := Aside0.mk (hbox); have n2_ := Aside0.mk ((zap30 : w.heap.size ≤ gb1174)); have n3_ := Aside0.mk ((zap30 : w.heap.size ≤ gb1174)); clear HB; have HB := n0_; have BK1174 := n1_; have GW1174 := n2_; have GE1174 := n3_; clear n0_ n1_ n2_ n3_; clear hb hbox hg) | ((with_reducible refine gate_dst (N := 4) rfl ?_); refine box_event ?hg (N := 4) ?hd (cs := #[.int .i64 a1_0, .int .i64 a1_1]) (t := 26) ?hr ?_; (case hd => rfl); (case hg => rfl); (case hr => first | (go_simp; done) | (go_simp; rfl)); intro gb1175 hg w24 hbox hb; have n0_ := Aside0.mk (blk_below (g := gb1174) (o := .cells #[.int .i64 a0_0, .int .i64 a0_1, .slice A0_2 l0_2.length c0_2] 24 (0, 0)) zap2 hb); have n1_ := Aside0.mk (below_step zap7 hb); have n2_ := Aside0.mk (hbox); have n3_ := Aside0.mk ((zap31 : w.heap.size ≤ gb1175)); have n4_ := Aside0.mk ((zap31 : w.heap.size ≤ gb1175)); have n5_ := Aside0.mk ((zap28 : gb1174 ≠ gb1175)); have n6_ := Aside0.mk ((zap29 : gb1175 ≠ gb1174)); clear BK1174; clear HB; have BK1174 := n0_; have HB := n1_; have BK1175 := n2_; have GW1175 := n3_; have GE1175 := n4_; have NB1174_1175 := n5_; have NB1175_1174 := n6_; clear n0_ n1_ n2_ n3_ n4_ n5_ n6_; clear hb hbox hg; have hnb25 := NB1174_1175.out; have hnc25 := NB1175_1174.out; have hcz26_0 : w24.cell? ⟨gb1174, 0, none⟩ = some (.int .i64 a0_0) := (blk_cell BK1174.out 0).trans rfl; have hcz26_1 : w24.cell? ⟨gb1174, 1, none⟩ = some (.int .i64 a0_1) := (blk_cell BK1174.out 1).trans rfl; have hcz26_2 : w24.cell? ⟨gb1174, 2, none⟩ = some (.slice A0_2 l0_2.length c0_2) := (blk_cell BK1174.out 2).trans rfl; have hfz26_0 := blk_frozen BK1174.out 0; have hfz26_1 := blk_frozen BK1174.out 1; have hfz26_2 := blk_frozen BK1174.out 2) | ((with_reducible refine gate_callee (f := 15) rfl ?_); refine goesL_ (some 19) rfl rfl Try.func15 (by kernel_rfl) rfl #[.agg #[.int .i64 a0_0, .int .i64 a0_1, .slice A0_2 l0_2.length c0_2], .int .i64 1048576] rfl zap4 ?_; (with_reducible refine (laws_szBoard.calls a0_0 a0_1 _ _ l0_2 1048576 t1176 _ ?side1 ?side2 A7.out).mono ?_); (case side1 => exact zap12); (case side2 => exact HC0_2.out); rintro e w27 ⟨rfl, hb⟩; refine ⟨_, rfl, ?_⟩; have n0_ := Aside0.mk (blk_below (g := gb1174) (o := .cells #[.int .i64 a0_0, .int .i64 a0_1, .slice A0_2 l0_2.length c0_2] 24 (0, 0)) zap2 hb); have n1_ := Aside0.mk (blk_below (g := gb1175) (o := .cells #[.int .i64 a1_0, .int .i64 a1_1] 26 (0, 0)) zap5 hb); have n2_ := Aside0.mk (below_step zap3 hb); clear BK1174; clear BK1175; clear HB; have BK1174 := n0_; have BK1175 := n1_; have HB := n2_; clear n0_ n1_ n2_; (try clear hb); (try clear hb2); (try clear hk); (try clear hi); (try clear hna_); (try clear hnb_)))
 have n0_ := Aside0.mk (blk_drew BK1174.out)
 have n1_ := Aside0.mk (blk_drew BK1175.out)
 have n2_ := Aside0.mk (below_drew1 HB.out)
 clear BK1174
 clear BK1175
 clear HB
 have BK1174 := n0_
 have BK1175 := n1_
 have HB := n2_
 clear n0_ n1_ n2_
 refine start_ (n := 12) (S := fun w' => w'.cell? ⟨gb1174, 0, none⟩ = some (.int .i64 a0_0) ∧ w'.cell? ⟨gb1174, 1, none⟩ = some (.int .i64 a0_1) ∧ w'.cell? ⟨gb1174, 2, none⟩ = some (.slice A0_2 l0_2.length c0_2) ∧ w'.cell? ⟨gb1175, 0, none⟩ = some (.int .i64 a1_0) ∧ w'.cell? ⟨gb1175, 1, none⟩ = some (.int .i64 a1_1)) (ds := []) #[false, false, false, false, false, false, false, false, false, false, false, false] (by kernel_rfl) rfl rfl ⟨(blk_cell BK1174.out 0).trans rfl, (blk_cell BK1174.out 1).trans rfl, (blk_cell BK1174.out 2).trans rfl, (blk_cell BK1175.out 0).trans rfl, (blk_cell BK1175.out 1).trans rfl⟩ (fun hHeld => ?_); refine with_tabW laws_FnExactIsHalfMagic.tab7 laws_FnExactIsHalfMagic.bits7 (fun HT_ HW_ => ?_)
 generalize w27.drew = w28 at BK1174 BK1175 HB hHeld ⊢
 refine pure_ (i := 4) (N := some 27) (v := ?_) (a' := ?_) #[false, false, false, false, true, false, false, false, false, false, false, false] rfl rfl (any_of HT_.out (by kernel_rfl)) (fun _ _ _ h => h) (Or.inl ⟨by rfl, ?_⟩) ?_ ?_
 rotate_left
 ·intro w'
  go_simp
  with_reducible rfl
 rotate_left
 ·simp only [Act.put, List.setIfInBounds_toArray, List.set_cons_zero, List.set_cons_succ, i64_w, i32_w]
  rfl
 refine take_ (i := 0) (N := some 23) (v := ?_) (a' := ?_) #[true, false, false, false, true, false, false, false, false, false, false, false] rfl rfl (take_ofW HT_.out HW_.out (by kernel_rfl)) (fun _ _ _ h => h) (Or.inl ⟨by rfl, ?_⟩) hHeld ?_ ?_
 rotate_left
 ·rintro w' ⟨s0, s1, s2, s3, s4⟩
  go_simp
  with_reducible rfl
 rotate_left
 ·simp only [Act.put, List.setIfInBounds_toArray, List.set_cons_zero, List.set_cons_succ, i64_w, i32_w]
  rfl
 refine take_ (i := 2) (N := some 25) (v := ?_) (a' := ?_) #[true, false, true, false, true, false, false, false, false, false, false, false] rfl rfl (take_ofW HT_.out HW_.out (by kernel_rfl)) (fun _ _ _ h => h) (Or.inl ⟨by rfl, ?_⟩) hHeld ?_ ?_
 rotate_left
 ·rintro w' ⟨s0, s1, s2, s3, s4⟩
  go_simp
  with_reducible rfl
 rotate_left
 ·simp only [Act.put, List.setIfInBounds_toArray, List.set_cons_zero, List.set_cons_succ, i64_w, i32_w]
  rfl
 refine one_ (i := 1) (N := some 24) #[true, true, true, false, true, false, false, false, false, false, false, false] rfl rfl (one_of HT_.out (by kernel_rfl)) (by decide) (fun K hK => ?_)
 refine goes_ Try.func17 (by kernel_rfl) rfl #[.agg #[.int .i64 a0_0, .int .i64 a0_1, .slice A0_2 l0_2.length c0_2]] (by rfl) rfl rfl zap4 ?_
 with_reducible refine (laws_toBoard.calls k a0_0 a0_1 _ _ l0_2 t1177 t1178 t1179 _ ?side1 ?side2 A14.out).mono ?_
 (case side1 => exact zap12)
 (case side2 => exact HC0_2.out)
 rintro e w29 ⟨v1180, rfl, ho0, hb⟩
 refine ⟨_, rfl, ?_⟩
 have n0_ := Aside0.mk (Kd.R_lower ho0 (below_size zap3))
 have n1_ := Aside0.mk (blk_below (g := gb1174) (o := .cells #[.int .i64 a0_0, .int .i64 a0_1, .slice A0_2 l0_2.length c0_2] 24 (0, 0)) zap2 hb)
 have n2_ := Aside0.mk (blk_below (g := gb1175) (o := .cells #[.int .i64 a1_0, .int .i64 a1_1] 26 (0, 0)) zap5 hb)
 have n3_ := Aside0.mk (below_step zap3 hb)
 clear BK1174
 clear BK1175
 clear HB
 have HO1181 := n0_
 have BK1174 := n1_
 have BK1175 := n2_
 have HB := n3_
 clear n0_ n1_ n2_ n3_
 (try clear hb)
 (try clear hb2)
 (try clear hk)
 (try clear hi)
 (try clear ho0)
 (try clear hna_)
 (try clear hnb_)
 refine hK.out _ _ ⟨(blk_cell BK1174.out 0).trans rfl, (blk_cell BK1174.out 1).trans rfl, (blk_cell BK1174.out 2).trans rfl, (blk_cell BK1175.out 0).trans rfl, (blk_cell BK1175.out 1).trans rfl⟩ (fun hHeld => ?_)
 clear hK K
 refine norm_ (a' := ?_) ?_ ?_
 rotate_left
 ·show Act.put _ (some 24) _ = _
  simp only [Act.put, List.setIfInBounds_toArray, List.set_cons_zero, List.set_cons_succ, i64_w, i32_w]
  rfl
 refine one_ (i := 3) (N := some 26) #[true, true, true, true, true, false, false, false, false, false, false, false] rfl rfl (one_of HT_.out (by kernel_rfl)) (by decide) (fun K hK => ?_)
 refine goes_ Try.func18 (by kernel_rfl) rfl #[.agg #[.int .i64 a1_0, .int .i64 a1_1]] (by rfl) rfl rfl zap4 ?_
 with_reducible refine (laws_toLeaper.calls a1_0 a1_1 t1182 t1183 _ A15.out).mono ?_
 rintro e w30 ⟨rfl, hb⟩
 refine ⟨_, rfl, ?_⟩
 have n0_ := Aside0.mk (Kd.R_below zap13 hb)
 have n1_ := Aside0.mk (blk_below (g := gb1174) (o := .cells #[.int .i64 a0_0, .int .i64 a0_1, .slice A0_2 l0_2.length c0_2] 24 (0, 0)) zap2 hb)
 have n2_ := Aside0.mk (blk_below (g := gb1175) (o := .cells #[.int .i64 a1_0, .int .i64 a1_1] 26 (0, 0)) zap5 hb)
 have n3_ := Aside0.mk (below_step zap3 hb)
 clear HO1181
 clear BK1174
 clear BK1175
 clear HB
 have HO1181 := n0_
 have BK1174 := n1_
 have BK1175 := n2_
 have HB := n3_
 clear n0_ n1_ n2_ n3_
 (try clear hb)
 (try clear hb2)
 (try clear hk)
 (try clear hi)
 (try clear hna_)
 (try clear hnb_)
 refine hK.out _ _ ⟨(blk_cell BK1174.out 0).trans rfl, (blk_cell BK1174.out 1).trans rfl, (blk_cell BK1174.out 2).trans rfl, (blk_cell BK1175.out 0).trans rfl, (blk_cell BK1175.out 1).trans rfl⟩ (fun hHeld => ?_)
 clear hK K
 refine norm_ (a' := ?_) ?_ ?_
 rotate_left
 ·show Act.put _ (some 26) _ = _
  simp only [Act.put, List.setIfInBounds_toArray, List.set_cons_zero, List.set_cons_succ, i64_w, i32_w]
  rfl
 refine one_ (i := 5) (N := some 28) #[true, true, true, true, true, true, false, false, false, false, false, false] rfl rfl (one_of HT_.out (by kernel_rfl)) (by decide) (fun K hK => ?_)
 refine goes_ Try.func19 (by kernel_rfl) rfl #[.slice A2 l2.length c2] (by rfl) rfl rfl zap4 ?_
 with_reducible refine (laws_toIntS.calls k _ _ l2 t1184 _ ?side1 ?side2 A16.out).mono ?_
 (case side1 => exact zap22)
 (case side2 => exact HC2.out)
 rintro e w31 ⟨v1185, rfl, ho0, hb⟩
 refine ⟨_, rfl, ?_⟩
 have n0_ := Aside0.mk (Kd.R_elder' zap13 (Kd.R_base ho0) hb)
 have n1_ := Aside0.mk (Kd.R_lower (Kd.R_new' ho0 (Kd.R_lt zap13)) (below_size zap3))
 have n2_ := Aside0.mk (blk_below (g := gb1174) (o := .cells #[.int .i64 a0_0, .int .i64 a0_1, .slice A0_2 l0_2.length c0_2] 24 (0, 0)) zap2 hb)
 have n3_ := Aside0.mk (blk_below (g := gb1175) (o := .cells #[.int .i64 a1_0, .int .i64 a1_1] 26 (0, 0)) zap5 hb)
 have n4_ := Aside0.mk (below_step zap3 hb)
 clear HO1181
 clear BK1174
 clear BK1175
 clear HB
 have HO1181 := n0_
 have HO1186 := n1_
 have BK1174 := n2_
 have BK1175 := n3_
 have HB := n4_
 clear n0_ n1_ n2_ n3_ n4_
 (try clear hb)
 (try clear hb2)
 (try clear hk)
 (try clear hi)
 (try clear ho0)
 (try clear hna_)
 (try clear hnb_)
 obtain ⟨Ao32, co32, eo32⟩ := Kd.R_slice HO1181.out
 (first | subst eo32 | (injection eo32 with f1_ f2_ f3_; have f4_ := f1_.symm; have f5_ := f3_.symm; clear f1_ f2_ f3_; subst f4_; subst f5_))
 obtain ⟨Ao33, co33, eo33⟩ := Kd.R_slice HO1186.out
 (first | subst eo33 | (injection eo33 with f1_ f2_ f3_; have f4_ := f1_.symm; have f5_ := f3_.symm; clear f1_ f2_ f3_; subst f4_; subst f5_))
 refine hK.out _ _ ⟨(blk_cell BK1174.out 0).trans rfl, (blk_cell BK1174.out 1).trans rfl, (blk_cell BK1174.out 2).trans rfl, (blk_cell BK1175.out 0).trans rfl, (blk_cell BK1175.out 1).trans rfl⟩ (fun hHeld => ?_)
 clear hK K
 refine norm_ (a' := ?_) ?_ ?_
 rotate_left
 ·show Act.put _ (some 28) _ = _
  simp only [Act.put, List.setIfInBounds_toArray, List.set_cons_zero, List.set_cons_succ, i64_w, i32_w]
  rfl
 refine one_ (i := 6) (N := some 29) #[true, true, true, true, true, true, true, false, false, false, false, false] rfl rfl (one_of HT_.out (by kernel_rfl)) (by decide) (fun K hK => ?_)
 refine goes_ Try.func40 (by kernel_rfl) rfl #[.agg #[.int .i64 t1177, .int .i64 t1178, .slice Ao32 t1179.length co32], .agg #[.int .i64 t1182, .int .i64 t1183], .slice Ao33 t1184.length co33] (by rfl) rfl rfl zap4 ?_
 with_reducible refine (spec_IsHalfMagic.calls k t1177 t1178 _ _ t1179 t1182 t1183 _ _ t1184 t1187 t1188 _ ?side1 ?side2 ?side3 ?side4 A17.out).mono ?_
 (case side1 => repeat (first | exact (Kd.R_reads' HO1181.out).2.2 | (with_reducible refine Kd.C_alloc ?_ _) | (with_reducible refine Kd.C_drewN ?_ _) | (with_reducible refine Kd.C_drew ?_)))
 (case side2 => exact (Kd.R_reads' HO1181.out).2.1)
 (case side3 => repeat (first | exact (Kd.R_reads' HO1186.out).2.2 | (with_reducible refine Kd.C_alloc ?_ _) | (with_reducible refine Kd.C_drewN ?_ _) | (with_reducible refine Kd.C_drew ?_)))
 (case side4 => exact (Kd.R_reads' HO1186.out).2.1)
 rintro e w34 ⟨rfl, hb⟩
 refine ⟨_, rfl, ?_⟩
 have n0_ := Aside0.mk (Kd.R_below zap13 hb)
 have n1_ := Aside0.mk (Kd.R_below zap15 hb)
 have n2_ := Aside0.mk (blk_below (g := gb1174) (o := .cells #[.int .i64 a0_0, .int .i64 a0_1, .slice A0_2 l0_2.length c0_2] 24 (0, 0)) zap2 hb)
 have n3_ := Aside0.mk (blk_below (g := gb1175) (o := .cells #[.int .i64 a1_0, .int .i64 a1_1] 26 (0, 0)) zap5 hb)
 have n4_ := Aside0.mk (below_step zap3 hb)
 clear HO1181
 clear HO1186
 clear BK1174
 clear BK1175
 clear HB
 have HO1181 := n0_
 have HO1186 := n1_
 have BK1174 := n2_
 have BK1175 := n3_
 have HB := n4_
 clear n0_ n1_ n2_ n3_ n4_
 (try clear hb)
 (try clear hb2)
 (try clear hk)
 (try clear hi)
 (try clear hna_)
 (try clear hnb_)
 refine hK.out _ _ ⟨(blk_cell BK1174.out 0).trans rfl, (blk_cell BK1174.out 1).trans rfl, (blk_cell BK1174.out 2).trans rfl, (blk_cell BK1175.out 0).trans rfl, (blk_cell BK1175.out 1).trans rfl⟩ (fun hHeld => ?_)
 clear hK K
 refine norm_ (a' := ?_) ?_ ?_
 rotate_left
 ·show Act.put _ (some 29) _ = _
  simp only [Act.put, List.setIfInBounds_toArray, List.set_cons_zero, List.set_cons_succ, i64_w, i32_w]
  rfl
 refine pure_ (i := 7) (N := some 22) (v := ?_) (a' := ?_) #[true, true, true, true, true, true, true, true, false, false, false, false] rfl rfl (any_of HT_.out (by kernel_rfl)) (fun _ _ _ h => h) (Or.inl ⟨by rfl, ?_⟩) ?_ ?_
 rotate_left
 ·intro w'
  go_simp
  with_reducible rfl
 rotate_left
 ·simp only [Act.put, List.setIfInBounds_toArray, List.set_cons_zero, List.set_cons_succ, i64_w, i32_w]
  rfl
 refine pure_ (i := 8) (N := some 30) (v := ?_) (a' := ?_) #[true, true, true, true, true, true, true, true, true, false, false, false] rfl rfl (any_of HT_.out (by kernel_rfl)) (fun _ _ _ h => h) (Or.inl ⟨by rfl, ?_⟩) ?_ ?_
 rotate_left
 ·intro w'
  go_simp
  with_reducible rfl
 rotate_left
 ·simp only [Act.put, List.setIfInBounds_toArray, List.set_cons_zero, List.set_cons_succ, i64_w, i32_w]
  rfl
 refine pure_ (i := 9) (N := some 31) (v := ?_) (a' := ?_) #[true, true, true, true, true, true, true, true, true, true, false, false] rfl rfl (any_of HT_.out (by kernel_rfl)) (fun _ _ _ h => h) (Or.inl ⟨by rfl, ?_⟩) ?_ ?_
 rotate_left
 ·intro w'
  go_simp
  with_reducible rfl
 rotate_left
 ·simp only [Act.put, List.setIfInBounds_toArray, List.set_cons_zero, List.set_cons_succ, i64_w, i32_w]
  rfl
 refine pure_ (i := 10) (N := some 8) (v := ?_) (a' := ?_) #[true, true, true, true, true, true, true, true, true, true, true, false] rfl rfl (any_of HT_.out (by kernel_rfl)) (fun _ _ _ h => h) (Or.inl ⟨by rfl, ?_⟩) ?_ ?_
 rotate_left
 ·intro w'
  go_simp
  with_reducible rfl
 rotate_left
 ·simp only [Act.put, List.setIfInBounds_toArray, List.set_cons_zero, List.set_cons_succ, i64_w, i32_w]
  rfl
 refine pure_ (i := 11) (N := some 9) (v := ?_) (a' := ?_) #[true, true, true, true, true, true, true, true, true, true, true, true] rfl rfl (any_of HT_.out (by kernel_rfl)) (fun _ _ _ h => h) (Or.inl ⟨by rfl, ?_⟩) ?_ ?_
 rotate_left
 ·intro w'
  go_simp
  with_reducible rfl
 rotate_left
 ·simp only [Act.put, List.setIfInBounds_toArray, List.set_cons_zero, List.set_cons_succ, i64_w, i32_w]
  rfl
 refine done_ (done_of HT_.out (by kernel_rfl)) ?_
 have hcz35_0 : w34.cell? ⟨gb1174, 0, none⟩ = some (.int .i64 a0_0) := (blk_cell BK1174.out 0).trans rfl
 have hcz35_1 : w34.cell? ⟨gb1174, 1, none⟩ = some (.int .i64 a0_1) := (blk_cell BK1174.out 1).trans rfl
 have hcz35_2 : w34.cell? ⟨gb1174, 2, none⟩ = some (.slice A0_2 l0_2.length c0_2) := (blk_cell BK1174.out 2).trans rfl
 have hfz35_0 := blk_frozen BK1174.out 0
 have hfz35_1 := blk_frozen BK1174.out 1
 have hfz35_2 := blk_frozen BK1174.out 2
 try go_wp2_with (first | ((with_reducible refine gate_callee (f := 17) rfl ?_); refine goesL_ (some 33) rfl rfl Try.func17 (by kernel_rfl) rfl #[.agg #[.int .i64 a0_0, .int .i64 a0_1, .slice A0_2 l0_2.length c0_2]] rfl zap4 ?_; (with_reducible refine (laws_toBoard.calls k a0_0 a0_1 _ _ l0_2 t1189 t1190 t1191 _ ?side1 ?side2 A18.out).mono ?_); (case side1 => exact zap12); (case side2 => exact HC0_2.out); rintro e w36 ⟨v1192, rfl, ho0, hb⟩; refine ⟨_, rfl, ?_⟩; have n0_ := Aside0.mk (Kd.R_elder' zap13 (Kd.R_base ho0) hb); have n1_ := Aside0.mk (Kd.R_elder' zap15 (Kd.R_base ho0) hb); have n2_ := Aside0.mk (Kd.R_lower (Kd.R_new' (Kd.R_new' ho0 (Kd.R_lt zap13)) (Kd.R_lt zap15)) (below_size zap3)); have n3_ := Aside0.mk (blk_below (g := gb1174) (o := .cells #[.int .i64 a0_0, .int .i64 a0_1, .slice A0_2 l0_2.length c0_2] 24 (0, 0)) zap2 hb); have n4_ := Aside0.mk (blk_below (g := gb1175) (o := .cells #[.int .i64 a1_0, .int .i64 a1_1] 26 (0, 0)) zap5 hb); have n5_ := Aside0.mk (below_step zap3 hb); clear HO1181; clear HO1186; clear BK1174; clear BK1175; clear HB; have HO1181 := n0_; have HO1186 := n1_; have HO1193 := n2_; have BK1174 := n3_; have BK1175 := n4_; have HB := n5_; clear n0_ n1_ n2_ n3_ n4_ n5_; (try clear hb); (try clear hb2); (try clear hk); (try clear hi); (try clear ho0); (try clear hna_); (try clear hnb_)) | ((with_reducible refine gate_dst (N := 10) rfl ?_); refine box_event ?hg (N := 10) ?hd (cs := #[.int .i64 0, .int .i64 0, .slice none 0 0]) (t := 30) ?hr ?_; (case hd => rfl); (case hg => rfl); (case hr => first | (go_simp; done) | (go_simp; rfl)); intro gb1194 hg w37 hbox hb; have n0_ := Aside0.mk (Kd.R_below zap13 hb); have n1_ := Aside0.mk (Kd.R_below zap15 hb); have n2_ := Aside0.mk (Kd.R_below zap23 hb); have n3_ := Aside0.mk (blk_below (g := gb1174) (o := .cells #[.int .i64 a0_0, .int .i64 a0_1, .slice A0_2 l0_2.length c0_2] 24 (0, 0)) zap2 hb); have n4_ := Aside0.mk (blk_below (g := gb1175) (o := .cells #[.int .i64 a1_0, .int .i64 a1_1] 26 (0, 0)) zap5 hb); have n5_ := Aside0.mk (below_step zap3 hb); have n6_ := Aside0.mk (hbox); have n7_ := Aside0.mk ((by rw [hg]; exact (below_size zap3) : w.heap.size ≤ gb1194)); have n8_ := Aside0.mk ((by rw [hg]; exact (below_size zap3) : w.heap.size ≤ gb1194)); have n9_ := Aside0.mk ((zap28 : gb1174 ≠ gb1194)); have n10_ := Aside0.mk ((zap29 : gb1194 ≠ gb1174)); have n11_ := Aside0.mk ((by rw [hg]; exact Nat.ne_of_lt (blk_lt (g := gb1175) (o := .cells #[.int .i64 a1_0, .int .i64 a1_1] 26 (0, 0)) zap5) : gb1175 ≠ gb1194)); have n12_ := Aside0.mk ((by rw [hg]; exact Nat.ne_of_gt (blk_lt (g := gb1175) (o := .cells #[.int .i64 a1_0, .int .i64 a1_1] 26 (0, 0)) zap5) : gb1194 ≠ gb1175)); clear HO1181; clear HO1186; clear HO1193; clear BK1174; clear BK1175; clear HB; have HO1181 := n0_; have HO1186 := n1_; have HO1193 := n2_; have BK1174 := n3_; have BK1175 := n4_; have HB := n5_; have BK1194 := n6_; have GW1194 := n7_; have GE1194 := n8_; have NB1174_1194 := n9_; have NB1194_1174 := n10_; have NB1175_1194 := n11_; have NB1194_1175 := n12_; clear n0_ n1_ n2_ n3_ n4_ n5_ n6_ n7_ n8_ n9_ n10_ n11_ n12_; clear hb hbox hg; have hnb38 := NB1194_1174.out; have hnc38 := NB1174_1194.out; have hnb39 := NB1194_1175.out; have hnc39 := NB1175_1194.out; have hcz40_0 : w37.cell? ⟨gb1194, 0, none⟩ = some (.int .i64 0) := (blk_cell BK1194.out 0).trans rfl; have hcz40_1 : w37.cell? ⟨gb1194, 1, none⟩ = some (.int .i64 0) := (blk_cell BK1194.out 1).trans rfl; have hcz40_2 : w37.cell? ⟨gb1194, 2, none⟩ = some (.slice none 0 0) := (blk_cell BK1194.out 2).trans rfl; have hfz40_0 := blk_frozen BK1194.out 0; have hfz40_1 := blk_frozen BK1194.out 1; have hfz40_2 := blk_frozen BK1194.out 2; obtain ⟨Ao41, co41, eo41⟩ := Kd.R_slice HO1193.out; subst eo41) | ((with_reducible refine gate_callee (f := 19) rfl ?_); refine goesL_ (some 35) rfl rfl Try.func19 (by kernel_rfl) rfl #[.slice A2 l2.length c2] rfl zap4 ?_; (with_reducible refine (laws_toIntS.calls k _ _ l2 t1195 _ ?side1 ?side2 A19.out).mono ?_); (case side1 => exact Kd.C_below HR2.out zap1); (case side2 => exact HC2.out); rintro e w42 ⟨v1196, rfl, ho0, hb⟩; refine ⟨_, rfl, ?_⟩; have n0_ := Aside0.mk (Kd.R_elder' zap19 (Kd.R_base ho0) hb); have n1_ := Aside0.mk (Kd.R_elder' zap18 (Kd.R_base ho0) hb); have n2_ := Aside0.mk (Kd.R_elder' zap17 (Kd.R_base ho0) hb); have n3_ := Aside0.mk (Kd.R_lower (Kd.R_new' (Kd.R_new' (Kd.R_new' ho0 (Kd.R_lt zap19)) (Kd.R_lt zap18)) (Kd.R_lt zap17)) (below_size zap1)); have n4_ := Aside0.mk (blk_below (g := gb1174) (o := .cells #[.int .i64 a0_0, .int .i64 a0_1, .slice A0_2 l0_2.length c0_2] 24 (0, 0)) (by (with_reducible repeat (first | refine blk_drewN ?_ _ | refine blk_drew ?_ | refine blk_alloc ?_ _)); refine blk_far ?_ NB1174_1194.out _; (with_reducible repeat (first | refine blk_drewN ?_ _ | refine blk_drew ?_ | refine blk_alloc ?_ _)); refine blk_far ?_ NB1174_1194.out _; (with_reducible repeat (first | refine blk_drewN ?_ _ | refine blk_drew ?_ | refine blk_alloc ?_ _)); refine blk_far ?_ NB1174_1194.out _; (with_reducible repeat (first | refine blk_drewN ?_ _ | refine blk_drew ?_ | refine blk_alloc ?_ _)); exact BK1174.out) hb); have n5_ := Aside0.mk (blk_below (g := gb1175) (o := .cells #[.int .i64 a1_0, .int .i64 a1_1] 26 (0, 0)) (by (with_reducible repeat (first | refine blk_drewN ?_ _ | refine blk_drew ?_ | refine blk_alloc ?_ _)); refine blk_far ?_ NB1175_1194.out _; (with_reducible repeat (first | refine blk_drewN ?_ _ | refine blk_drew ?_ | refine blk_alloc ?_ _)); refine blk_far ?_ NB1175_1194.out _; (with_reducible repeat (first | refine blk_drewN ?_ _ | refine blk_drew ?_ | refine blk_alloc ?_ _)); refine blk_far ?_ NB1175_1194.out _; (with_reducible repeat (first | refine blk_drewN ?_ _ | refine blk_drew ?_ | refine blk_alloc ?_ _)); exact BK1175.out) hb); have n6_ := Aside0.mk (blk_below (g := gb1194) (o := .cells #[.int .i64 t1189, .int .i64 t1190, .slice Ao41 t1191.length co41] 30 (0, 0)) (by (with_reducible repeat (first | refine blk_drewN ?_ _ | refine blk_drew ?_ | refine blk_alloc ?_ _)); refine blk_put (cs := #[.int .i64 t1189, .int .i64 t1190, .slice none 0 0]) ?_ 2 _ rfl; (with_reducible repeat (first | refine blk_drewN ?_ _ | refine blk_drew ?_ | refine blk_alloc ?_ _)); refine blk_put (cs := #[.int .i64 t1189, .int .i64 0, .slice none 0 0]) ?_ 1 _ rfl; (with_reducible repeat (first | refine blk_drewN ?_ _ | refine blk_drew ?_ | refine blk_alloc ?_ _)); refine blk_put (cs := #[.int .i64 0, .int .i64 0, .slice none 0 0]) ?_ 0 _ rfl; (with_reducible repeat (first | refine blk_drewN ?_ _ | refine blk_drew ?_ | refine blk_alloc ?_ _)); exact BK1194.out) hb); have n7_ := Aside0.mk (below_step zap1 hb); clear HO1181; clear HO1186; clear HO1193; clear BK1174; clear BK1175; clear BK1194; clear HB; have HO1181 := n0_; have HO1186 := n1_; have HO1193 := n2_; have HO1197 := n3_; have BK1174 := n4_; have BK1175 := n5_; have BK1194 := n6_; have HB := n7_; clear n0_ n1_ n2_ n3_ n4_ n5_ n6_ n7_; (try clear hb); (try clear hb2); (try clear hk); (try clear hi); (try clear ho0); (try clear hna_); (try clear hnb_)))
 have n0_ := Aside0.mk (Kd.R_drew HO1181.out)
 have n1_ := Aside0.mk (Kd.R_drew HO1186.out)
 have n2_ := Aside0.mk (Kd.R_drew HO1193.out)
 have n3_ := Aside0.mk (Kd.R_drew HO1197.out)
 have n4_ := Aside0.mk (blk_drew BK1174.out)
 have n5_ := Aside0.mk (blk_drew BK1175.out)
 have n6_ := Aside0.mk (blk_drew BK1194.out)
 have n7_ := Aside0.mk (below_drew1 HB.out)
 clear HO1181
 clear HO1186
 clear HO1193
 clear HO1197
 clear BK1174
 clear BK1175
 clear BK1194
 clear HB
 have HO1181 := n0_
 have HO1186 := n1_
 have HO1193 := n2_
 have HO1197 := n3_
 have BK1174 := n4_
 have BK1175 := n5_
 have BK1194 := n6_
 have HB := n7_
 clear n0_ n1_ n2_ n3_ n4_ n5_ n6_ n7_
 refine start_ (n := 10) (S := fun w' => w'.cell? ⟨gb1194, 0, none⟩ = some (.int .i64 t1189) ∧ w'.cell? ⟨gb1194, 1, none⟩ = some (.int .i64 t1190) ∧ w'.cell? ⟨gb1194, 2, none⟩ = some (.slice Ao41 t1191.length co41) ∧ w'.cell? ⟨gb1175, 0, none⟩ = some (.int .i64 a1_0) ∧ w'.cell? ⟨gb1175, 1, none⟩ = some (.int .i64 a1_1)) (ds := []) #[false, false, false, false, false, false, false, false, false, false] (by kernel_rfl) rfl rfl ⟨(blk_cell BK1194.out 0).trans rfl, (blk_cell BK1194.out 1).trans rfl, (blk_cell BK1194.out 2).trans rfl, (blk_cell BK1175.out 0).trans rfl, (blk_cell BK1175.out 1).trans rfl⟩ (fun hHeld => ?_); refine with_tabW laws_FnExactIsHalfMagic.tab10 laws_FnExactIsHalfMagic.bits10 (fun HT_ HW_ => ?_)
 generalize w42.drew = w43 at HO1181 HO1186 HO1193 HO1197 BK1174 BK1175 BK1194 HB hHeld ⊢
 refine pure_ (i := 3) (N := some 40) (v := ?_) (a' := ?_) #[false, false, false, true, false, false, false, false, false, false] rfl rfl (any_of HT_.out (by kernel_rfl)) (fun _ _ _ h => h) (Or.inl ⟨by rfl, ?_⟩) ?_ ?_
 rotate_left
 ·intro w'
  go_simp
  with_reducible rfl
 rotate_left
 ·simp only [Act.put, List.setIfInBounds_toArray, List.set_cons_zero, List.set_cons_succ, i64_w, i32_w]
  rfl
 refine take_ (i := 0) (N := some 37) (v := ?_) (a' := ?_) #[true, false, false, true, false, false, false, false, false, false] rfl rfl (take_ofW HT_.out HW_.out (by kernel_rfl)) (fun _ _ _ h => h) (Or.inl ⟨by rfl, ?_⟩) hHeld ?_ ?_
 rotate_left
 ·rintro w' ⟨s0, s1, s2, s3, s4⟩
  go_simp
  with_reducible rfl
 rotate_left
 ·simp only [Act.put, List.setIfInBounds_toArray, List.set_cons_zero, List.set_cons_succ, i64_w, i32_w]
  rfl
 refine take_ (i := 1) (N := some 38) (v := ?_) (a' := ?_) #[true, true, false, true, false, false, false, false, false, false] rfl rfl (take_ofW HT_.out HW_.out (by kernel_rfl)) (fun _ _ _ h => h) (Or.inl ⟨by rfl, ?_⟩) hHeld ?_ ?_
 rotate_left
 ·rintro w' ⟨s0, s1, s2, s3, s4⟩
  go_simp
  with_reducible rfl
 rotate_left
 ·simp only [Act.put, List.setIfInBounds_toArray, List.set_cons_zero, List.set_cons_succ, i64_w, i32_w]
  rfl
 refine one_ (i := 2) (N := some 39) #[true, true, true, true, false, false, false, false, false, false] rfl rfl (one_of HT_.out (by kernel_rfl)) (by decide) (fun K hK => ?_)
 refine goes_ Try.func18 (by kernel_rfl) rfl #[.agg #[.int .i64 a1_0, .int .i64 a1_1]] (by rfl) rfl rfl zap4 ?_
 with_reducible refine (laws_toLeaper.calls a1_0 a1_1 t1198 t1199 _ A20.out).mono ?_
 rintro e w44 ⟨rfl, hb⟩
 refine ⟨_, rfl, ?_⟩
 have n0_ := Aside0.mk (Kd.R_below zap13 hb)
 have n1_ := Aside0.mk (Kd.R_below zap15 hb)
 have n2_ := Aside0.mk (Kd.R_below zap23 hb)
 have n3_ := Aside0.mk (Kd.R_below (by (with_reducible repeat (first | apply Kd.R_alloc | apply Kd.R_drewN | apply Kd.R_drew)); exact HO1197.out) hb)
 have n4_ := Aside0.mk (blk_below (g := gb1174) (o := .cells #[.int .i64 a0_0, .int .i64 a0_1, .slice A0_2 l0_2.length c0_2] 24 (0, 0)) zap2 hb)
 have n5_ := Aside0.mk (blk_below (g := gb1175) (o := .cells #[.int .i64 a1_0, .int .i64 a1_1] 26 (0, 0)) zap5 hb)
 have n6_ := Aside0.mk (blk_below (g := gb1194) (o := .cells #[.int .i64 t1189, .int .i64 t1190, .slice Ao41 t1191.length co41] 30 (0, 0)) zap9 hb)
 have n7_ := Aside0.mk (below_step zap1 hb)
 clear HO1181
 clear HO1186
 clear HO1193
 clear HO1197
 clear BK1174
 clear BK1175
 clear BK1194
 clear HB
 have HO1181 := n0_
 have HO1186 := n1_
 have HO1193 := n2_
 have HO1197 := n3_
 have BK1174 := n4_
 have BK1175 := n5_
 have BK1194 := n6_
 have HB := n7_
 clear n0_ n1_ n2_ n3_ n4_ n5_ n6_ n7_
 (try clear hb)
 (try clear hb2)
 (try clear hk)
 (try clear hi)
 (try clear hna_)
 (try clear hnb_)
 obtain ⟨Ao45, co45, eo45⟩ := Kd.R_slice HO1197.out
 (first | subst eo45 | (injection eo45 with f1_ f2_ f3_; have f4_ := f1_.symm; have f5_ := f3_.symm; clear f1_ f2_ f3_; subst f4_; subst f5_))
 refine hK.out _ _ ⟨(blk_cell BK1194.out 0).trans rfl, (blk_cell BK1194.out 1).trans rfl, (blk_cell BK1194.out 2).trans rfl, (blk_cell BK1175.out 0).trans rfl, (blk_cell BK1175.out 1).trans rfl⟩ (fun hHeld => ?_)
 clear hK K
 refine norm_ (a' := ?_) ?_ ?_
 rotate_left
 ·show Act.put _ (some 39) _ = _
  simp only [Act.put, List.setIfInBounds_toArray, List.set_cons_zero, List.set_cons_succ, i64_w, i32_w]
  rfl
 refine one_ (i := 4) (N := some 41) #[true, true, true, true, true, false, false, false, false, false] rfl rfl (one_of HT_.out (by kernel_rfl)) (by decide) (fun K hK => ?_)
 refine goes_ Try.func41 (by kernel_rfl) rfl #[.agg #[.int .i64 t1189, .int .i64 t1190, .slice Ao41 t1191.length co41], .agg #[.int .i64 t1198, .int .i64 t1199], .slice Ao45 t1195.length co45] (by rfl) rfl rfl zap4 ?_
 with_reducible refine (impl_IsHalfMagic.calls k t1189 t1190 _ _ t1191 t1198 t1199 _ _ t1195 t1200 t1201 _ ?side1 ?side2 ?side3 ?side4 A21.out).mono ?_
 (case side1 => repeat (first | exact (Kd.R_reads' HO1193.out).2.2 | (with_reducible refine Kd.C_alloc ?_ _) | (with_reducible refine Kd.C_drewN ?_ _) | (with_reducible refine Kd.C_drew ?_)))
 (case side2 => exact (Kd.R_reads' HO1193.out).2.1)
 (case side3 => repeat (first | exact (Kd.R_reads' HO1197.out).2.2 | (with_reducible refine Kd.C_alloc ?_ _) | (with_reducible refine Kd.C_drewN ?_ _) | (with_reducible refine Kd.C_drew ?_)))
 (case side4 => exact (Kd.R_reads' HO1197.out).2.1)
 rintro e w46 ⟨rfl, hb⟩
 refine ⟨_, rfl, ?_⟩
 have n0_ := Aside0.mk (Kd.R_below zap13 hb)
 have n1_ := Aside0.mk (Kd.R_below zap15 hb)
 have n2_ := Aside0.mk (Kd.R_below zap23 hb)
 have n3_ := Aside0.mk (Kd.R_below (by (with_reducible repeat (first | apply Kd.R_alloc | apply Kd.R_drewN | apply Kd.R_drew)); exact HO1197.out) hb)
 have n4_ := Aside0.mk (blk_below (g := gb1174) (o := .cells #[.int .i64 a0_0, .int .i64 a0_1, .slice A0_2 l0_2.length c0_2] 24 (0, 0)) zap2 hb)
 have n5_ := Aside0.mk (blk_below (g := gb1175) (o := .cells #[.int .i64 a1_0, .int .i64 a1_1] 26 (0, 0)) zap5 hb)
 have n6_ := Aside0.mk (blk_below (g := gb1194) (o := .cells #[.int .i64 t1189, .int .i64 t1190, .slice Ao41 t1191.length co41] 30 (0, 0)) zap9 hb)
 have n7_ := Aside0.mk (below_step zap1 hb)
 clear HO1181
 clear HO1186
 clear HO1193
 clear HO1197
 clear BK1174
 clear BK1175
 clear BK1194
 clear HB
 have HO1181 := n0_
 have HO1186 := n1_
 have HO1193 := n2_
 have HO1197 := n3_
 have BK1174 := n4_
 have BK1175 := n5_
 have BK1194 := n6_
 have HB := n7_
 clear n0_ n1_ n2_ n3_ n4_ n5_ n6_ n7_
 (try clear hb)
 (try clear hb2)
 (try clear hk)
 (try clear hi)
 (try clear hna_)
 (try clear hnb_)
 refine hK.out _ _ ⟨(blk_cell BK1194.out 0).trans rfl, (blk_cell BK1194.out 1).trans rfl, (blk_cell BK1194.out 2).trans rfl, (blk_cell BK1175.out 0).trans rfl, (blk_cell BK1175.out 1).trans rfl⟩ (fun hHeld => ?_)
 clear hK K
 refine norm_ (a' := ?_) ?_ ?_
 rotate_left
 ·show Act.put _ (some 41) _ = _
  simp only [Act.put, List.setIfInBounds_toArray, List.set_cons_zero, List.set_cons_succ, i64_w, i32_w]
  rfl
 refine pure_ (i := 5) (N := some 36) (v := ?_) (a' := ?_) #[true, true, true, true, true, true, false, false, false, false] rfl rfl (any_of HT_.out (by kernel_rfl)) (fun _ _ _ h => h) (Or.inl ⟨by rfl, ?_⟩) ?_ ?_
 rotate_left
 ·intro w'
  go_simp
  with_reducible rfl
 rotate_left
 ·simp only [Act.put, List.setIfInBounds_toArray, List.set_cons_zero, List.set_cons_succ, i64_w, i32_w]
  rfl
 refine pure_ (i := 6) (N := some 42) (v := ?_) (a' := ?_) #[true, true, true, true, true, true, true, false, false, false] rfl rfl (any_of HT_.out (by kernel_rfl)) (fun _ _ _ h => h) (Or.inl ⟨by rfl, ?_⟩) ?_ ?_
 rotate_left
 ·intro w'
  go_simp
  with_reducible rfl
 rotate_left
 ·simp only [Act.put, List.setIfInBounds_toArray, List.set_cons_zero, List.set_cons_succ, i64_w, i32_w]
  rfl
 refine pure_ (i := 7) (N := some 43) (v := ?_) (a' := ?_) #[true, true, true, true, true, true, true, true, false, false] rfl rfl (any_of HT_.out (by kernel_rfl)) (fun _ _ _ h => h) (Or.inl ⟨by rfl, ?_⟩) ?_ ?_
 rotate_left
 ·intro w'
  go_simp
  with_reducible rfl
 rotate_left
 ·simp only [Act.put, List.setIfInBounds_toArray, List.set_cons_zero, List.set_cons_succ, i64_w, i32_w]
  rfl
 refine pure_ (i := 8) (N := some 12) (v := ?_) (a' := ?_) #[true, true, true, true, true, true, true, true, true, false] rfl rfl (any_of HT_.out (by kernel_rfl)) (fun _ _ _ h => h) (Or.inl ⟨by rfl, ?_⟩) ?_ ?_
 rotate_left
 ·intro w'
  go_simp
  with_reducible rfl
 rotate_left
 ·simp only [Act.put, List.setIfInBounds_toArray, List.set_cons_zero, List.set_cons_succ, i64_w, i32_w]
  rfl
 refine pure_ (i := 9) (N := some 13) (v := ?_) (a' := ?_) #[true, true, true, true, true, true, true, true, true, true] rfl rfl (any_of HT_.out (by kernel_rfl)) (fun _ _ _ h => h) (Or.inl ⟨by rfl, ?_⟩) ?_ ?_
 rotate_left
 ·intro w'
  go_simp
  with_reducible rfl
 rotate_left
 ·simp only [Act.put, List.setIfInBounds_toArray, List.set_cons_zero, List.set_cons_succ, i64_w, i32_w]
  rfl
 refine done_ (done_of HT_.out (by kernel_rfl)) ?_
 go_upto_region 11 with (fail)
 go_cut [51] (fun v51 wc => ∃ (kq : Nat) (x51_21 : Bool), v51 = .bool x51_21 ∧ Aside0 (laws_FnExactIsHalfMagic.j0 kq l2 t1195 x51_21 a0_0 a0_1 l0_2 t1189 t1190 t1191 = some r) ∧ Aside0 (kq ≤ k) ∧ Aside0 (Kd.R (Kd.int .i64) 3 wc w.heap.size (fun k_ => some k_ ≠ ((.slice Ao41 t1191.length co41) : Value).ownBlock) (.slice Ao45 t1195.length co45) t1195) ∧ Aside0 (Kd.R (Kd.int .i64) 3 wc w.heap.size (fun k_ => some k_ ≠ ((.slice Ao45 t1195.length co45) : Value).ownBlock) (.slice Ao41 t1191.length co41) t1191) ∧ Aside0 (wc.heap[gb1174]? = some (.cells #[.int .i64 a0_0, .int .i64 a0_1, (.slice A0_2 l0_2.length c0_2)] 24 (0, 0))) ∧ Aside0 (wc.heap[gb1175]? = some (.cells #[.int .i64 a1_0, .int .i64 a1_1] 26 (0, 0))) ∧ Aside0 (wc.heap[gb1194]? = some (.cells #[.int .i64 t1189, .int .i64 t1190, (.slice Ao41 t1191.length co41)] 30 (0, 0))) ∧ Aside0 (Below w.heap.size w wc))
 case first =>
  have H := HC22.out
  clear HC22
  by_cases c47 : (t1200 != t1187) = true
  rotate_left
  ·rw [if_neg c47] at H
   have c47b0 : (t1200 != t1187) = false := by simpa using c47
   (try (have c47b1 : decide (t1200 = t1187) = true := by simpa using c47))
   (try (have c47b2 : (t1200 == t1187) = true := by simpa using c47))
   clear c47
   (first | rw [c47b0] | (simp only [i64_w, i32_w]; rw [c47b0]) | skip)
   have H' := Aside0.mk H
   clear H
   go_wp2
   go_meet
   case rel => exact ⟨_, ((t1201 != t1188)), (by first | rfl | (simp; done) | (simp [*]; done)), H', ⟨by first | omega | exact Nat.le_refl _⟩, ⟨zap26⟩, ⟨zap27⟩, ⟨zap2⟩, ⟨zap5⟩, ⟨zap9⟩, ⟨zap1⟩⟩
  rw [if_pos c47] at H
  have c47b0 : (t1200 != t1187) = true := c47
  (try (have c47b1 : decide (t1200 = t1187) = false := by simpa using c47))
  (try (have c47b2 : (t1200 == t1187) = false := by simpa using c47))
  (try (have c47b3 : ¬ (t1200 = t1187) := by simpa using c47))
  clear c47
  (first | rw [c47b0] | (simp only [i64_w, i32_w]; rw [c47b0]) | skip)
  have H' := Aside0.mk H
  clear H
  go_wp2
  go_meet
  case rel => exact ⟨_, (true), (by first | rfl | (simp; done) | (simp [*]; done)), H', ⟨by first | omega | exact Nat.le_refl _⟩, ⟨zap26⟩, ⟨zap27⟩, ⟨zap2⟩, ⟨zap5⟩, ⟨zap9⟩, ⟨zap1⟩⟩
 case rest =>
  clear HC22
  try clear c1; try clear c2; try clear p2; try clear c3; try clear c4; try clear c4b0; try clear c4b1; try clear c8; try clear c8b0; try clear c11; try clear c15; try clear c17; try clear c18; try clear c19; try clear c25; try clear c38; try clear c39; try clear c40; try clear c41; try clear c47; try clear c47b0; try clear c47b1; try clear c47b2; try clear hcz12_0; try clear hcz12_1; try clear hcz12_2; try clear hcz26_0; try clear hcz26_1; try clear hcz26_2; try clear hcz35_0; try clear hcz35_1; try clear hcz35_2; try clear hcz40_0; try clear hcz40_1; try clear hcz40_2; try clear hfz12_0; try clear hfz12_1
  try clear hfz12_2; try clear hfz26_0; try clear hfz26_1; try clear hfz26_2; try clear hfz35_0; try clear hfz35_1; try clear hfz35_2; try clear hfz40_0; try clear hfz40_1; try clear hfz40_2
  obtain ⟨kq, x51_21, rfl, HA, HJ21, HO_11, HO_1195002, BK1174, BK1175, BK1194, HB⟩ := hcut
  cases kq with
  | zero => exact absurd HA.out (by simp [laws_FnExactIsHalfMagic.j0])
  | succ kj21 =>
   have H := HA.out
   clear HA
   simp only [laws_FnExactIsHalfMagic.j0] at H
   by_cases c48 : x51_21 = true
   ·subst c48
    have H1 : (some false) = some r := by rw [if_pos rfl] at H; exact H
    clear H
    have H := H1
    clear H1
    obtain rfl := Option.some.inj H
    go_wp2
    go_ret
    exact ⟨zap16, zap1⟩
   replace c48 := Bool.eq_false_iff.mpr c48
   subst c48
   have H1 : ((laws_toBoard.f kj21 a0_0 a0_1 l0_2).bind fun bt1202 => ((laws_eqBoard.f kj21 t1189 t1190 t1191 bt1202.1 bt1202.2.1 bt1202.2.2).bind fun t1207 => (if t1207 = true then ((laws_toIntS.f kj21 l2).bind fun t1208 => ((laws_eqIntS.f kj21 t1195 t1208).bind fun t1211 => (if t1211 = true then (some true) else (some false)))) else (some false)))) = some r := by rw [if_neg (show ¬ (false = true) by decide)] at H; exact H
   clear H
   have H := H1
   clear H1
   replace H := Option.bind_eq_some_iff.mp H
   obtain ⟨⟨t1202, t1203, t1204⟩, A490, H⟩ := H
   replace H : ((laws_eqBoard.f kj21 t1189 t1190 t1191 t1202 t1203 t1204).bind fun t1207 => (if t1207 = true then ((laws_toIntS.f kj21 l2).bind fun t1208 => ((laws_eqIntS.f kj21 t1195 t1208).bind fun t1211 => (if t1211 = true then (some true) else (some false)))) else (some false))) = some r := H
   have A49 := Aside0.mk A490
   clear A490
   replace H := Option.bind_eq_some_iff.mp H
   obtain ⟨t1207, A500, H⟩ := H
   replace H : (if t1207 = true then ((laws_toIntS.f kj21 l2).bind fun t1208 => ((laws_eqIntS.f kj21 t1195 t1208).bind fun t1211 => (if t1211 = true then (some true) else (some false)))) else (some false)) = some r := H
   have A50 := Aside0.mk A500
   clear A500
   by_cases c51 : t1207 = true
   rotate_left
   ·replace c51 := Bool.eq_false_iff.mpr c51
    subst c51
    have H1 : (some false) = some r := by rw [if_neg (show ¬ (false = true) by decide)] at H; exact H
    clear H
    have H := H1
    clear H1
    obtain rfl := Option.some.inj H
    try go_wp2
    have n0_ := Aside0.mk (Kd.R_drew HO_11.out)
    have n1_ := Aside0.mk (Kd.R_drew HO_1195002.out)
    have n2_ := Aside0.mk (blk_drew BK1174.out)
    have n3_ := Aside0.mk (blk_drew BK1175.out)
    have n4_ := Aside0.mk (blk_drew BK1194.out)
    have n5_ := Aside0.mk (below_drew1 HB.out)
    clear HO_11
    clear HO_1195002
    clear BK1174
    clear BK1175
    clear BK1194
    clear HB
    have HO_11 := n0_
    have HO_1195002 := n1_
    have BK1174 := n2_
    have BK1175 := n3_
    have BK1194 := n4_
    have HB := n5_
    clear n0_ n1_ n2_ n3_ n4_ n5_
    refine start_ (n := 5) (S := fun w' => w'.cell? ⟨gb1194, 0, none⟩ = some (.int .i64 t1189) ∧ w'.cell? ⟨gb1194, 1, none⟩ = some (.int .i64 t1190) ∧ w'.cell? ⟨gb1194, 2, none⟩ = some (.slice Ao41 t1191.length co41) ∧ w'.cell? ⟨gb1174, 0, none⟩ = some (.int .i64 a0_0) ∧ w'.cell? ⟨gb1174, 1, none⟩ = some (.int .i64 a0_1) ∧ w'.cell? ⟨gb1174, 2, none⟩ = some (.slice A0_2 l0_2.length c0_2)) (ds := []) #[false, false, false, false, false] (by kernel_rfl) rfl rfl ⟨(blk_cell BK1194.out 0).trans rfl, (blk_cell BK1194.out 1).trans rfl, (blk_cell BK1194.out 2).trans rfl, (blk_cell BK1174.out 0).trans rfl, (blk_cell BK1174.out 1).trans rfl, (blk_cell BK1174.out 2).trans rfl⟩ (fun hHeld => ?_)
    generalize wc.drew = w67 at HO_11 HO_1195002 BK1174 BK1175 BK1194 HB hHeld ⊢
    refine take_ (i := 0) (N := some 52) (v := ?_) (a' := ?_) #[true, false, false, false, false] rfl rfl (by kernel_rfl) (fun _ _ _ h => h) (Or.inl ⟨by rfl, ?_⟩) hHeld ?_ ?_
    rotate_left
    ·rintro w' ⟨s0, s1, s2, s3, s4, s5⟩
     go_simp
     with_reducible rfl
    rotate_left
    ·simp only [Act.put, List.setIfInBounds_toArray, List.set_cons_zero, List.set_cons_succ, i64_w, i32_w]
     rfl
    refine take_ (i := 1) (N := some 53) (v := ?_) (a' := ?_) #[true, true, false, false, false] rfl rfl (by kernel_rfl) (fun _ _ _ h => h) (Or.inl ⟨by rfl, ?_⟩) hHeld ?_ ?_
    rotate_left
    ·rintro w' ⟨s0, s1, s2, s3, s4, s5⟩
     go_simp
     with_reducible rfl
    rotate_left
    ·simp only [Act.put, List.setIfInBounds_toArray, List.set_cons_zero, List.set_cons_succ, i64_w, i32_w]
     rfl
    refine one_ (i := 2) (N := some 54) #[true, true, true, false, false] rfl rfl (by kernel_rfl) (by decide) (fun K hK => ?_)
    refine goes_ Try.func17 (by kernel_rfl) rfl #[.agg #[.int .i64 a0_0, .int .i64 a0_1, .slice A0_2 l0_2.length c0_2]] (by rfl) rfl rfl zap4 ?_
    with_reducible refine (laws_toBoard.calls kj21 a0_0 a0_1 _ _ l0_2 t1202 t1203 t1204 _ ?side1 ?side2 A49.out).mono ?_
    (case side1 => exact zap12)
    (case side2 => exact HC0_2.out)
    rintro e w68 ⟨v1205, rfl, ho0, hb⟩
    refine ⟨_, rfl, ?_⟩
    have n0_ := Aside0.mk (Kd.R_elder' zap10 (Kd.R_base ho0) hb)
    have n1_ := Aside0.mk (Kd.R_elder' zap8 (Kd.R_base ho0) hb)
    have n2_ := Aside0.mk (Kd.R_lower (Kd.R_new' (Kd.R_new' ho0 (Kd.R_lt zap10)) (Kd.R_lt zap8)) (below_size zap1))
    have n3_ := Aside0.mk (blk_below (g := gb1174) (o := .cells #[.int .i64 a0_0, .int .i64 a0_1, .slice A0_2 l0_2.length c0_2] 24 (0, 0)) zap2 hb)
    have n4_ := Aside0.mk (blk_below (g := gb1175) (o := .cells #[.int .i64 a1_0, .int .i64 a1_1] 26 (0, 0)) zap5 hb)
    have n5_ := Aside0.mk (blk_below (g := gb1194) (o := .cells #[.int .i64 t1189, .int .i64 t1190, .slice Ao41 t1191.length co41] 30 (0, 0)) zap9 hb)
    have n6_ := Aside0.mk (below_step zap1 hb)
    clear HO_11
    clear HO_1195002
    clear BK1174
    clear BK1175
    clear BK1194
    clear HB
    have HO_11 := n0_
    have HO_1195002 := n1_
    have HO1206 := n2_
    have BK1174 := n3_
    have BK1175 := n4_
    have BK1194 := n5_
    have HB := n6_
    clear n0_ n1_ n2_ n3_ n4_ n5_ n6_
    (try clear hb)
    (try clear hb2)
    (try clear hk)
    (try clear hi)
    (try clear ho0)
    (try clear hna_)
    (try clear hnb_)
    obtain ⟨Ao69, co69, eo69⟩ := Kd.R_slice HO1206.out
    (first | subst eo69 | (injection eo69 with f1_ f2_ f3_; have f4_ := f1_.symm; have f5_ := f3_.symm; clear f1_ f2_ f3_; subst f4_; subst f5_))
    refine hK.out _ _ ⟨(blk_cell BK1194.out 0).trans rfl, (blk_cell BK1194.out 1).trans rfl, (blk_cell BK1194.out 2).trans rfl, (blk_cell BK1174.out 0).trans rfl, (blk_cell BK1174.out 1).trans rfl, (blk_cell BK1174.out 2).trans rfl⟩ (fun hHeld => ?_)
    clear hK K
    refine norm_ (a' := ?_) ?_ ?_
    rotate_left
    ·show Act.put _ (some 54) _ = _
     simp only [Act.put, List.setIfInBounds_toArray, List.set_cons_zero, List.set_cons_succ, i64_w, i32_w]
     rfl
    refine one_ (i := 3) (N := some 55) #[true, true, true, true, false] rfl rfl (by kernel_rfl) (by decide) (fun K hK => ?_)
    refine goes_ Try.func22 (by kernel_rfl) rfl #[.agg #[.int .i64 t1189, .int .i64 t1190, .slice Ao41 t1191.length co41], .agg #[.int .i64 t1202, .int .i64 t1203, .slice Ao69 t1204.length co69]] (by rfl) rfl rfl zap4 ?_
    with_reducible refine (laws_eqBoard.calls kj21 t1189 t1190 _ _ t1191 t1202 t1203 _ _ t1204 false _ ?side1 ?side2 ?side3 ?side4 A50.out).mono ?_
    (case side1 => exact zap20)
    (case side2 => exact (Kd.R_reads' HO_1195002.out).2.1)
    (case side3 => exact zap21)
    (case side4 => exact (Kd.R_reads' HO1206.out).2.1)
    rintro e w70 ⟨rfl, hb⟩
    refine ⟨_, rfl, ?_⟩
    have n0_ := Aside0.mk (Kd.R_below zap10 hb)
    have n1_ := Aside0.mk (Kd.R_below zap8 hb)
    have n2_ := Aside0.mk (Kd.R_below zap14 hb)
    have n3_ := Aside0.mk (blk_below (g := gb1174) (o := .cells #[.int .i64 a0_0, .int .i64 a0_1, .slice A0_2 l0_2.length c0_2] 24 (0, 0)) zap2 hb)
    have n4_ := Aside0.mk (blk_below (g := gb1175) (o := .cells #[.int .i64 a1_0, .int .i64 a1_1] 26 (0, 0)) zap5 hb)
    have n5_ := Aside0.mk (blk_below (g := gb1194) (o := .cells #[.int .i64 t1189, .int .i64 t1190, .slice Ao41 t1191.length co41] 30 (0, 0)) zap9 hb)
    have n6_ := Aside0.mk (below_step zap1 hb)
    clear HO_11
    clear HO_1195002
    clear HO1206
    clear BK1174
    clear BK1175
    clear BK1194
    clear HB
    have HO_11 := n0_
    have HO_1195002 := n1_
    have HO1206 := n2_
    have BK1174 := n3_
    have BK1175 := n4_
    have BK1194 := n5_
    have HB := n6_
    clear n0_ n1_ n2_ n3_ n4_ n5_ n6_
    (try clear hb)
    (try clear hb2)
    (try clear hk)
    (try clear hi)
    (try clear hna_)
    (try clear hnb_)
    refine hK.out _ _ ⟨(blk_cell BK1194.out 0).trans rfl, (blk_cell BK1194.out 1).trans rfl, (blk_cell BK1194.out 2).trans rfl, (blk_cell BK1174.out 0).trans rfl, (blk_cell BK1174.out 1).trans rfl, (blk_cell BK1174.out 2).trans rfl⟩ (fun hHeld => ?_)
    clear hK K
    refine norm_ (a' := ?_) ?_ ?_
    rotate_left
    ·show Act.put _ (some 55) _ = _
     simp only [Act.put, List.setIfInBounds_toArray, List.set_cons_zero, List.set_cons_succ, i64_w, i32_w]
     rfl
    refine pure_ (i := 4) (N := some 56) (v := ?_) (a' := ?_) #[true, true, true, true, true] rfl rfl (by kernel_rfl) (fun _ _ _ h => h) (Or.inl ⟨by rfl, ?_⟩) ?_ ?_
    rotate_left
    ·intro w'
     go_simp
     with_reducible rfl
    rotate_left
    ·simp only [Act.put, List.setIfInBounds_toArray, List.set_cons_zero, List.set_cons_succ, i64_w, i32_w]
     rfl
    refine done_ (by kernel_rfl) ?_
    try go_wp2
    go_ret
    exact ⟨zap16, zap1⟩
   subst c51
   have H1 : ((laws_toIntS.f kj21 l2).bind fun t1208 => ((laws_eqIntS.f kj21 t1195 t1208).bind fun t1211 => (if t1211 = true then (some true) else (some false)))) = some r := by rw [if_pos rfl] at H; exact H
   clear H
   have H := H1
   clear H1
   replace H := Option.bind_eq_some_iff.mp H
   obtain ⟨t1208, A520, H⟩ := H
   replace H : ((laws_eqIntS.f kj21 t1195 t1208).bind fun t1211 => (if t1211 = true then (some true) else (some false))) = some r := H
   have A52 := Aside0.mk A520
   clear A520
   replace H := Option.bind_eq_some_iff.mp H
   obtain ⟨t1211, A530, H⟩ := H
   replace H : (if t1211 = true then (some true) else (some false)) = some r := H
   have A53 := Aside0.mk A530
   clear A530
   by_cases c54 : t1211 = true
   ·subst c54
    have H1 : (some true) = some r := by rw [if_pos rfl] at H; exact H
    clear H
    have H := H1
    clear H1
    obtain rfl := Option.some.inj H
    try go_wp2
    have n0_ := Aside0.mk (Kd.R_drew HO_11.out)
    have n1_ := Aside0.mk (Kd.R_drew HO_1195002.out)
    have n2_ := Aside0.mk (blk_drew BK1174.out)
    have n3_ := Aside0.mk (blk_drew BK1175.out)
    have n4_ := Aside0.mk (blk_drew BK1194.out)
    have n5_ := Aside0.mk (below_drew1 HB.out)
    clear HO_11
    clear HO_1195002
    clear BK1174
    clear BK1175
    clear BK1194
    clear HB
    have HO_11 := n0_
    have HO_1195002 := n1_
    have BK1174 := n2_
    have BK1175 := n3_
    have BK1194 := n4_
    have HB := n5_
    clear n0_ n1_ n2_ n3_ n4_ n5_
    refine start_ (n := 5) (S := fun w' => w'.cell? ⟨gb1194, 0, none⟩ = some (.int .i64 t1189) ∧ w'.cell? ⟨gb1194, 1, none⟩ = some (.int .i64 t1190) ∧ w'.cell? ⟨gb1194, 2, none⟩ = some (.slice Ao41 t1191.length co41) ∧ w'.cell? ⟨gb1174, 0, none⟩ = some (.int .i64 a0_0) ∧ w'.cell? ⟨gb1174, 1, none⟩ = some (.int .i64 a0_1) ∧ w'.cell? ⟨gb1174, 2, none⟩ = some (.slice A0_2 l0_2.length c0_2)) (ds := []) #[false, false, false, false, false] (by kernel_rfl) rfl rfl ⟨(blk_cell BK1194.out 0).trans rfl, (blk_cell BK1194.out 1).trans rfl, (blk_cell BK1194.out 2).trans rfl, (blk_cell BK1174.out 0).trans rfl, (blk_cell BK1174.out 1).trans rfl, (blk_cell BK1174.out 2).trans rfl⟩ (fun hHeld => ?_)
    generalize wc.drew = w55 at HO_11 HO_1195002 BK1174 BK1175 BK1194 HB hHeld ⊢
    refine take_ (i := 0) (N := some 52) (v := ?_) (a' := ?_) #[true, false, false, false, false] rfl rfl (by kernel_rfl) (fun _ _ _ h => h) (Or.inl ⟨by rfl, ?_⟩) hHeld ?_ ?_
    rotate_left
    ·rintro w' ⟨s0, s1, s2, s3, s4, s5⟩
     go_simp
     with_reducible rfl
    rotate_left
    ·simp only [Act.put, List.setIfInBounds_toArray, List.set_cons_zero, List.set_cons_succ, i64_w, i32_w]
     rfl
    refine take_ (i := 1) (N := some 53) (v := ?_) (a' := ?_) #[true, true, false, false, false] rfl rfl (by kernel_rfl) (fun _ _ _ h => h) (Or.inl ⟨by rfl, ?_⟩) hHeld ?_ ?_
    rotate_left
    ·rintro w' ⟨s0, s1, s2, s3, s4, s5⟩
     go_simp
     with_reducible rfl
    rotate_left
    ·simp only [Act.put, List.setIfInBounds_toArray, List.set_cons_zero, List.set_cons_succ, i64_w, i32_w]
     rfl
    refine one_ (i := 2) (N := some 54) #[true, true, true, false, false] rfl rfl (by kernel_rfl) (by decide) (fun K hK => ?_)
    refine goes_ Try.func17 (by kernel_rfl) rfl #[.agg #[.int .i64 a0_0, .int .i64 a0_1, .slice A0_2 l0_2.length c0_2]] (by rfl) rfl rfl zap4 ?_
    with_reducible refine (laws_toBoard.calls kj21 a0_0 a0_1 _ _ l0_2 t1202 t1203 t1204 _ ?side1 ?side2 A49.out).mono ?_
    (case side1 => exact zap12)
    (case side2 => exact HC0_2.out)
    rintro e w56 ⟨v1205, rfl, ho0, hb⟩
    refine ⟨_, rfl, ?_⟩
    have n0_ := Aside0.mk (Kd.R_elder' zap10 (Kd.R_base ho0) hb)
    have n1_ := Aside0.mk (Kd.R_elder' zap8 (Kd.R_base ho0) hb)
    have n2_ := Aside0.mk (Kd.R_lower (Kd.R_new' (Kd.R_new' ho0 (Kd.R_lt zap10)) (Kd.R_lt zap8)) (below_size zap1))
    have n3_ := Aside0.mk (blk_below (g := gb1174) (o := .cells #[.int .i64 a0_0, .int .i64 a0_1, .slice A0_2 l0_2.length c0_2] 24 (0, 0)) zap2 hb)
    have n4_ := Aside0.mk (blk_below (g := gb1175) (o := .cells #[.int .i64 a1_0, .int .i64 a1_1] 26 (0, 0)) zap5 hb)
    have n5_ := Aside0.mk (blk_below (g := gb1194) (o := .cells #[.int .i64 t1189, .int .i64 t1190, .slice Ao41 t1191.length co41] 30 (0, 0)) zap9 hb)
    have n6_ := Aside0.mk (below_step zap1 hb)
    clear HO_11
    clear HO_1195002
    clear BK1174
    clear BK1175
    clear BK1194
    clear HB
    have HO_11 := n0_
    have HO_1195002 := n1_
    have HO1206 := n2_
    have BK1174 := n3_
    have BK1175 := n4_
    have BK1194 := n5_
    have HB := n6_
    clear n0_ n1_ n2_ n3_ n4_ n5_ n6_
    (try clear hb)
    (try clear hb2)
    (try clear hk)
    (try clear hi)
    (try clear ho0)
    (try clear hna_)
    (try clear hnb_)
    obtain ⟨Ao57, co57, eo57⟩ := Kd.R_slice HO1206.out
    (first | subst eo57 | (injection eo57 with f1_ f2_ f3_; have f4_ := f1_.symm; have f5_ := f3_.symm; clear f1_ f2_ f3_; subst f4_; subst f5_))
    refine hK.out _ _ ⟨(blk_cell BK1194.out 0).trans rfl, (blk_cell BK1194.out 1).trans rfl, (blk_cell BK1194.out 2).trans rfl, (blk_cell BK1174.out 0).trans rfl, (blk_cell BK1174.out 1).trans rfl, (blk_cell BK1174.out 2).trans rfl⟩ (fun hHeld => ?_)
    clear hK K
    refine norm_ (a' := ?_) ?_ ?_
    rotate_left
    ·show Act.put _ (some 54) _ = _
     simp only [Act.put, List.setIfInBounds_toArray, List.set_cons_zero, List.set_cons_succ, i64_w, i32_w]
     rfl
    refine one_ (i := 3) (N := some 55) #[true, true, true, true, false] rfl rfl (by kernel_rfl) (by decide) (fun K hK => ?_)
    refine goes_ Try.func22 (by kernel_rfl) rfl #[.agg #[.int .i64 t1189, .int .i64 t1190, .slice Ao41 t1191.length co41], .agg #[.int .i64 t1202, .int .i64 t1203, .slice Ao57 t1204.length co57]] (by rfl) rfl rfl zap4 ?_
    with_reducible refine (laws_eqBoard.calls kj21 t1189 t1190 _ _ t1191 t1202 t1203 _ _ t1204 true _ ?side1 ?side2 ?side3 ?side4 A50.out).mono ?_
    (case side1 => exact zap20)
    (case side2 => exact (Kd.R_reads' HO_1195002.out).2.1)
    (case side3 => exact zap21)
    (case side4 => exact (Kd.R_reads' HO1206.out).2.1)
    rintro e w58 ⟨rfl, hb⟩
    refine ⟨_, rfl, ?_⟩
    have n0_ := Aside0.mk (Kd.R_below zap10 hb)
    have n1_ := Aside0.mk (Kd.R_below zap8 hb)
    have n2_ := Aside0.mk (Kd.R_below zap14 hb)
    have n3_ := Aside0.mk (blk_below (g := gb1174) (o := .cells #[.int .i64 a0_0, .int .i64 a0_1, .slice A0_2 l0_2.length c0_2] 24 (0, 0)) zap2 hb)
    have n4_ := Aside0.mk (blk_below (g := gb1175) (o := .cells #[.int .i64 a1_0, .int .i64 a1_1] 26 (0, 0)) zap5 hb)
    have n5_ := Aside0.mk (blk_below (g := gb1194) (o := .cells #[.int .i64 t1189, .int .i64 t1190, .slice Ao41 t1191.length co41] 30 (0, 0)) zap9 hb)
    have n6_ := Aside0.mk (below_step zap1 hb)
    clear HO_11
    clear HO_1195002
    clear HO1206
    clear BK1174
    clear BK1175
    clear BK1194
    clear HB
    have HO_11 := n0_
    have HO_1195002 := n1_
    have HO1206 := n2_
    have BK1174 := n3_
    have BK1175 := n4_
    have BK1194 := n5_
    have HB := n6_
    clear n0_ n1_ n2_ n3_ n4_ n5_ n6_
    (try clear hb)
    (try clear hb2)
    (try clear hk)
    (try clear hi)
    (try clear hna_)
    (try clear hnb_)
    refine hK.out _ _ ⟨(blk_cell BK1194.out 0).trans rfl, (blk_cell BK1194.out 1).trans rfl, (blk_cell BK1194.out 2).trans rfl, (blk_cell BK1174.out 0).trans rfl, (blk_cell BK1174.out 1).trans rfl, (blk_cell BK1174.out 2).trans rfl⟩ (fun hHeld => ?_)
    clear hK K
    refine norm_ (a' := ?_) ?_ ?_
    rotate_left
    ·show Act.put _ (some 55) _ = _
     simp only [Act.put, List.setIfInBounds_toArray, List.set_cons_zero, List.set_cons_succ, i64_w, i32_w]
     rfl
    refine pure_ (i := 4) (N := some 56) (v := ?_) (a' := ?_) #[true, true, true, true, true] rfl rfl (by kernel_rfl) (fun _ _ _ h => h) (Or.inl ⟨by rfl, ?_⟩) ?_ ?_
    rotate_left
    ·intro w'
     go_simp
     with_reducible rfl
    rotate_left
    ·simp only [Act.put, List.setIfInBounds_toArray, List.set_cons_zero, List.set_cons_succ, i64_w, i32_w]
     rfl
    refine done_ (by kernel_rfl) ?_
    try go_wp2_with (first | ((with_reducible refine gate_callee (f := 19) rfl ?_); refine goesL_ (some 59) rfl rfl Try.func19 (by kernel_rfl) rfl #[.slice A2 l2.length c2] rfl zap4 ?_; (with_reducible refine (laws_toIntS.calls kj21 _ _ l2 t1208 _ ?side1 ?side2 A52.out).mono ?_); (case side1 => exact zap22); (case side2 => exact HC2.out); rintro e w59 ⟨v1209, rfl, ho0, hb⟩; refine ⟨_, rfl, ?_⟩; have n0_ := Aside0.mk (Kd.R_elder' zap10 (Kd.R_base ho0) hb); have n1_ := Aside0.mk (Kd.R_elder' zap8 (Kd.R_base ho0) hb); have n2_ := Aside0.mk (Kd.R_elder' zap14 (Kd.R_base ho0) hb); have n3_ := Aside0.mk (Kd.R_lower (Kd.R_new' (Kd.R_new' (Kd.R_new' ho0 (Kd.R_lt zap10)) (Kd.R_lt zap8)) (Kd.R_lt zap14)) (below_size zap1)); have n4_ := Aside0.mk (blk_below (g := gb1174) (o := .cells #[.int .i64 a0_0, .int .i64 a0_1, .slice A0_2 l0_2.length c0_2] 24 (0, 0)) zap2 hb); have n5_ := Aside0.mk (blk_below (g := gb1175) (o := .cells #[.int .i64 a1_0, .int .i64 a1_1] 26 (0, 0)) zap5 hb); have n6_ := Aside0.mk (blk_below (g := gb1194) (o := .cells #[.int .i64 t1189, .int .i64 t1190, .slice Ao41 t1191.length co41] 30 (0, 0)) zap9 hb); have n7_ := Aside0.mk (below_step zap1 hb); clear HO_11; clear HO_1195002; clear HO1206; clear BK1174; clear BK1175; clear BK1194; clear HB; have HO_11 := n0_; have HO_1195002 := n1_; have HO1206 := n2_; have HO1210 := n3_; have BK1174 := n4_; have BK1175 := n5_; have BK1194 := n6_; have HB := n7_; clear n0_ n1_ n2_ n3_ n4_ n5_ n6_ n7_; (try clear hb); (try clear hb2); (try clear hk); (try clear hi); (try clear ho0); (try clear hna_); (try clear hnb_); obtain ⟨Ao60, co60, eo60⟩ := Kd.R_slice HO1210.out; subst eo60) | ((with_reducible refine gate_callee (f := 21) rfl ?_); refine goesL_ (some 60) rfl rfl Try.func21 (by kernel_rfl) rfl #[.slice Ao45 t1195.length co45, .slice Ao60 t1208.length co60] rfl zap4 ?_; (with_reducible refine (laws_eqIntS.calls kj21 _ _ t1195 _ _ t1208 true _ ?side1 ?side2 ?side3 ?side4 A53.out).mono ?_); (case side1 => exact zap25); (case side2 => exact (Kd.R_reads' HO_11.out).2.1); (case side3 => exact zap24); (case side4 => exact (Kd.R_reads' HO1210.out).2.1); rintro e w' ⟨rfl, ⟨nd, rfl⟩⟩; refine ⟨_, rfl, ?_⟩))
    go_ret
    exact ⟨zap16, zap1⟩
   replace c54 := Bool.eq_false_iff.mpr c54
   subst c54
   have H1 : (some false) = some r := by rw [if_neg (show ¬ (false = true) by decide)] at H; exact H
   clear H
   have H := H1
   clear H1
   obtain rfl := Option.some.inj H
   try go_wp2
   have n0_ := Aside0.mk (Kd.R_drew HO_11.out)
   have n1_ := Aside0.mk (Kd.R_drew HO_1195002.out)
   have n2_ := Aside0.mk (blk_drew BK1174.out)
   have n3_ := Aside0.mk (blk_drew BK1175.out)
   have n4_ := Aside0.mk (blk_drew BK1194.out)
   have n5_ := Aside0.mk (below_drew1 HB.out)
   clear HO_11
   clear HO_1195002
   clear BK1174
   clear BK1175
   clear BK1194
   clear HB
   have HO_11 := n0_
   have HO_1195002 := n1_
   have BK1174 := n2_
   have BK1175 := n3_
   have BK1194 := n4_
   have HB := n5_
   clear n0_ n1_ n2_ n3_ n4_ n5_
   refine start_ (n := 5) (S := fun w' => w'.cell? ⟨gb1194, 0, none⟩ = some (.int .i64 t1189) ∧ w'.cell? ⟨gb1194, 1, none⟩ = some (.int .i64 t1190) ∧ w'.cell? ⟨gb1194, 2, none⟩ = some (.slice Ao41 t1191.length co41) ∧ w'.cell? ⟨gb1174, 0, none⟩ = some (.int .i64 a0_0) ∧ w'.cell? ⟨gb1174, 1, none⟩ = some (.int .i64 a0_1) ∧ w'.cell? ⟨gb1174, 2, none⟩ = some (.slice A0_2 l0_2.length c0_2)) (ds := []) #[false, false, false, false, false] (by kernel_rfl) rfl rfl ⟨(blk_cell BK1194.out 0).trans rfl, (blk_cell BK1194.out 1).trans rfl, (blk_cell BK1194.out 2).trans rfl, (blk_cell BK1174.out 0).trans rfl, (blk_cell BK1174.out 1).trans rfl, (blk_cell BK1174.out 2).trans rfl⟩ (fun hHeld => ?_)
   generalize wc.drew = w61 at HO_11 HO_1195002 BK1174 BK1175 BK1194 HB hHeld ⊢
   refine take_ (i := 0) (N := some 52) (v := ?_) (a' := ?_) #[true, false, false, false, false] rfl rfl (by kernel_rfl) (fun _ _ _ h => h) (Or.inl ⟨by rfl, ?_⟩) hHeld ?_ ?_
   rotate_left
   ·rintro w' ⟨s0, s1, s2, s3, s4, s5⟩
    go_simp
    with_reducible rfl
   rotate_left
   ·simp only [Act.put, List.setIfInBounds_toArray, List.set_cons_zero, List.set_cons_succ, i64_w, i32_w]
    rfl
   refine take_ (i := 1) (N := some 53) (v := ?_) (a' := ?_) #[true, true, false, false, false] rfl rfl (by kernel_rfl) (fun _ _ _ h => h) (Or.inl ⟨by rfl, ?_⟩) hHeld ?_ ?_
   rotate_left
   ·rintro w' ⟨s0, s1, s2, s3, s4, s5⟩
    go_simp
    with_reducible rfl
   rotate_left
   ·simp only [Act.put, List.setIfInBounds_toArray, List.set_cons_zero, List.set_cons_succ, i64_w, i32_w]
    rfl
   refine one_ (i := 2) (N := some 54) #[true, true, true, false, false] rfl rfl (by kernel_rfl) (by decide) (fun K hK => ?_)
   refine goes_ Try.func17 (by kernel_rfl) rfl #[.agg #[.int .i64 a0_0, .int .i64 a0_1, .slice A0_2 l0_2.length c0_2]] (by rfl) rfl rfl zap4 ?_
   with_reducible refine (laws_toBoard.calls kj21 a0_0 a0_1 _ _ l0_2 t1202 t1203 t1204 _ ?side1 ?side2 A49.out).mono ?_
   (case side1 => exact zap12)
   (case side2 => exact HC0_2.out)
   rintro e w62 ⟨v1205, rfl, ho0, hb⟩
   refine ⟨_, rfl, ?_⟩
   have n0_ := Aside0.mk (Kd.R_elder' zap10 (Kd.R_base ho0) hb)
   have n1_ := Aside0.mk (Kd.R_elder' zap8 (Kd.R_base ho0) hb)
   have n2_ := Aside0.mk (Kd.R_lower (Kd.R_new' (Kd.R_new' ho0 (Kd.R_lt zap10)) (Kd.R_lt zap8)) (below_size zap1))
   have n3_ := Aside0.mk (blk_below (g := gb1174) (o := .cells #[.int .i64 a0_0, .int .i64 a0_1, .slice A0_2 l0_2.length c0_2] 24 (0, 0)) zap2 hb)
   have n4_ := Aside0.mk (blk_below (g := gb1175) (o := .cells #[.int .i64 a1_0, .int .i64 a1_1] 26 (0, 0)) zap5 hb)
   have n5_ := Aside0.mk (blk_below (g := gb1194) (o := .cells #[.int .i64 t1189, .int .i64 t1190, .slice Ao41 t1191.length co41] 30 (0, 0)) zap9 hb)
   have n6_ := Aside0.mk (below_step zap1 hb)
   clear HO_11
   clear HO_1195002
   clear BK1174
   clear BK1175
   clear BK1194
   clear HB
   have HO_11 := n0_
   have HO_1195002 := n1_
   have HO1206 := n2_
   have BK1174 := n3_
   have BK1175 := n4_
   have BK1194 := n5_
   have HB := n6_
   clear n0_ n1_ n2_ n3_ n4_ n5_ n6_
   (try clear hb)
   (try clear hb2)
   (try clear hk)
   (try clear hi)
   (try clear ho0)
   (try clear hna_)
   (try clear hnb_)
   obtain ⟨Ao63, co63, eo63⟩ := Kd.R_slice HO1206.out
   (first | subst eo63 | (injection eo63 with f1_ f2_ f3_; have f4_ := f1_.symm; have f5_ := f3_.symm; clear f1_ f2_ f3_; subst f4_; subst f5_))
   refine hK.out _ _ ⟨(blk_cell BK1194.out 0).trans rfl, (blk_cell BK1194.out 1).trans rfl, (blk_cell BK1194.out 2).trans rfl, (blk_cell BK1174.out 0).trans rfl, (blk_cell BK1174.out 1).trans rfl, (blk_cell BK1174.out 2).trans rfl⟩ (fun hHeld => ?_)
   clear hK K
   refine norm_ (a' := ?_) ?_ ?_
   rotate_left
   ·show Act.put _ (some 54) _ = _
    simp only [Act.put, List.setIfInBounds_toArray, List.set_cons_zero, List.set_cons_succ, i64_w, i32_w]
    rfl
   refine one_ (i := 3) (N := some 55) #[true, true, true, true, false] rfl rfl (by kernel_rfl) (by decide) (fun K hK => ?_)
   refine goes_ Try.func22 (by kernel_rfl) rfl #[.agg #[.int .i64 t1189, .int .i64 t1190, .slice Ao41 t1191.length co41], .agg #[.int .i64 t1202, .int .i64 t1203, .slice Ao63 t1204.length co63]] (by rfl) rfl rfl zap4 ?_
   with_reducible refine (laws_eqBoard.calls kj21 t1189 t1190 _ _ t1191 t1202 t1203 _ _ t1204 true _ ?side1 ?side2 ?side3 ?side4 A50.out).mono ?_
   (case side1 => exact zap20)
   (case side2 => exact (Kd.R_reads' HO_1195002.out).2.1)
   (case side3 => exact zap21)
   (case side4 => exact (Kd.R_reads' HO1206.out).2.1)
   rintro e w64 ⟨rfl, hb⟩
   refine ⟨_, rfl, ?_⟩
   have n0_ := Aside0.mk (Kd.R_below zap10 hb)
   have n1_ := Aside0.mk (Kd.R_below zap8 hb)
   have n2_ := Aside0.mk (Kd.R_below zap14 hb)
   have n3_ := Aside0.mk (blk_below (g := gb1174) (o := .cells #[.int .i64 a0_0, .int .i64 a0_1, .slice A0_2 l0_2.length c0_2] 24 (0, 0)) zap2 hb)
   have n4_ := Aside0.mk (blk_below (g := gb1175) (o := .cells #[.int .i64 a1_0, .int .i64 a1_1] 26 (0, 0)) zap5 hb)
   have n5_ := Aside0.mk (blk_below (g := gb1194) (o := .cells #[.int .i64 t1189, .int .i64 t1190, .slice Ao41 t1191.length co41] 30 (0, 0)) zap9 hb)
   have n6_ := Aside0.mk (below_step zap1 hb)
   clear HO_11
   clear HO_1195002
   clear HO1206
   clear BK1174
   clear BK1175
   clear BK1194
   clear HB
   have HO_11 := n0_
   have HO_1195002 := n1_
   have HO1206 := n2_
   have BK1174 := n3_
   have BK1175 := n4_
   have BK1194 := n5_
   have HB := n6_
   clear n0_ n1_ n2_ n3_ n4_ n5_ n6_
   (try clear hb)
   (try clear hb2)
   (try clear hk)
   (try clear hi)
   (try clear hna_)
   (try clear hnb_)
   refine hK.out _ _ ⟨(blk_cell BK1194.out 0).trans rfl, (blk_cell BK1194.out 1).trans rfl, (blk_cell BK1194.out 2).trans rfl, (blk_cell BK1174.out 0).trans rfl, (blk_cell BK1174.out 1).trans rfl, (blk_cell BK1174.out 2).trans rfl⟩ (fun hHeld => ?_)
   clear hK K
   refine norm_ (a' := ?_) ?_ ?_
   rotate_left
   ·show Act.put _ (some 55) _ = _
    simp only [Act.put, List.setIfInBounds_toArray, List.set_cons_zero, List.set_cons_succ, i64_w, i32_w]
    rfl
   refine pure_ (i := 4) (N := some 56) (v := ?_) (a' := ?_) #[true, true, true, true, true] rfl rfl (by kernel_rfl) (fun _ _ _ h => h) (Or.inl ⟨by rfl, ?_⟩) ?_ ?_
   rotate_left
   ·intro w'
    go_simp
    with_reducible rfl
   rotate_left
   ·simp only [Act.put, List.setIfInBounds_toArray, List.set_cons_zero, List.set_cons_succ, i64_w, i32_w]
    rfl
   refine done_ (by kernel_rfl) ?_
   try go_wp2_with (first | ((with_reducible refine gate_callee (f := 19) rfl ?_); refine goesL_ (some 59) rfl rfl Try.func19 (by kernel_rfl) rfl #[.slice A2 l2.length c2] rfl zap4 ?_; (with_reducible refine (laws_toIntS.calls kj21 _ _ l2 t1208 _ ?side1 ?side2 A52.out).mono ?_); (case side1 => exact zap22); (case side2 => exact HC2.out); rintro e w65 ⟨v1209, rfl, ho0, hb⟩; refine ⟨_, rfl, ?_⟩; have n0_ := Aside0.mk (Kd.R_elder' zap10 (Kd.R_base ho0) hb); have n1_ := Aside0.mk (Kd.R_elder' zap8 (Kd.R_base ho0) hb); have n2_ := Aside0.mk (Kd.R_elder' zap14 (Kd.R_base ho0) hb); have n3_ := Aside0.mk (Kd.R_lower (Kd.R_new' (Kd.R_new' (Kd.R_new' ho0 (Kd.R_lt zap10)) (Kd.R_lt zap8)) (Kd.R_lt zap14)) (below_size zap1)); have n4_ := Aside0.mk (blk_below (g := gb1174) (o := .cells #[.int .i64 a0_0, .int .i64 a0_1, .slice A0_2 l0_2.length c0_2] 24 (0, 0)) zap2 hb); have n5_ := Aside0.mk (blk_below (g := gb1175) (o := .cells #[.int .i64 a1_0, .int .i64 a1_1] 26 (0, 0)) zap5 hb); have n6_ := Aside0.mk (blk_below (g := gb1194) (o := .cells #[.int .i64 t1189, .int .i64 t1190, .slice Ao41 t1191.length co41] 30 (0, 0)) zap9 hb); have n7_ := Aside0.mk (below_step zap1 hb); clear HO_11; clear HO_1195002; clear HO1206; clear BK1174; clear BK1175; clear BK1194; clear HB; have HO_11 := n0_; have HO_1195002 := n1_; have HO1206 := n2_; have HO1210 := n3_; have BK1174 := n4_; have BK1175 := n5_; have BK1194 := n6_; have HB := n7_; clear n0_ n1_ n2_ n3_ n4_ n5_ n6_ n7_; (try clear hb); (try clear hb2); (try clear hk); (try clear hi); (try clear ho0); (try clear hna_); (try clear hnb_); obtain ⟨Ao66, co66, eo66⟩ := Kd.R_slice HO1210.out; subst eo66) | ((with_reducible refine gate_callee (f := 21) rfl ?_); refine goesL_ (some 60) rfl rfl Try.func21 (by kernel_rfl) rfl #[.slice Ao45 t1195.length co45, .slice Ao66 t1208.length co66] rfl zap4 ?_; (with_reducible refine (laws_eqIntS.calls kj21 _ _ t1195 _ _ t1208 false _ ?side1 ?side2 ?side3 ?side4 A53.out).mono ?_); (case side1 => exact zap25); (case side2 => exact (Kd.R_reads' HO_11.out).2.1); (case side3 => exact zap24); (case side4 => exact (Kd.R_reads' HO1210.out).2.1); rintro e w' ⟨rfl, ⟨nd, rfl⟩⟩; refine ⟨_, rfl, ?_⟩))
   go_ret
   exact ⟨zap16, zap1⟩

end Go.Proofs.Ytjeongckkfkehaa.Q

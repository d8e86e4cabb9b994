/- Written by a program of this session: functions of the translation as plain Lean functions, each with a proof that the call does what the plain function says; the conditions stand in each theorem. -/
import Derived.Test.YtekajjhjjnfdpaaQ0
import Derived.Test.YtekajjhjjnfdpaaQ5
import Derived.Test.YtekajjhjjnfdpaaQ10
import Derived.Test.YtekajjhjjnfdpaaQ42
import Derived.Test.YtekajjhjjnfdpaaQ45
namespace Go.Proofs.Ytekajjhjjnfdpaa.Q
open Go.RowKit Go.Proofs.YtekajjhjjnfdpaaW.PrintWords Go.Proofs.YtekajjhjjnfdpaaW.PrintLast Go.Proofs.YtekajjhjjnfdpaaW.PrintMore
attribute [local go_sem] max2_int min2_int max_two min_two max_three min_three max_four min_four   -- for this text's walks alone
set_option linter.unusedVariables false
set_option linter.unusedSimpArgs false

/-! ### laws_FnExactCountByAround: function 11 -/
mutual
def laws_FnExactCountByAround.j0 : Nat → Int → List Int → Bool → List Int → Bool → Int → Int → Bool → Bool → Int → Int → Option (Bool)
 | 0, _, _, _, _, _, _, _, _, _, _, _ => none
 | k + 1, x2, x7, x8, x9, x41, x1164000, x1164001, x1164002, x1164003, x1165000, x1165001 => if x41 = true then (some false) else ((laws_markIntS.f k x9 1).bind fun bt1186 => ((laws_heldIntS.f k bt1186.2 1).bind fun t1188 => (if t1188 < 0 then (some false) else (if t1188 = bt1186.1 then ((laws_toAround.f x1164000 x1164001 x1164002 x1164003).bind fun bt1189 => ((laws_toLeaper.f x1165000 x1165001).bind fun bt1193 => ((impl_CountByAround.f k bt1189.1 bt1189.2.1 bt1189.2.2.1 bt1189.2.2.2 bt1193.1 bt1193.2 x2).bind fun bt1195 => ((laws_eqIntS.f k bt1195.1 x7).bind fun t1199 => (if t1199 = true then (laws_FnExactCountByAround.j1 k bt1186.2 bt1186.1 (bt1195.2 != x8)) else (laws_FnExactCountByAround.j1 k bt1186.2 bt1186.1 true)))))) else (some false)))))
def laws_FnExactCountByAround.j1 : Nat → List Int → Int → Bool → Option (Bool)
 | 0, _, _, _ => none
 | k + 1, x9, x11, x70 => if x70 = true then (some false) else ((laws_heldIntS.f k x9 1).bind fun t1200 => (if t1200 < 0 then (some false) else (if t1200 = x11 then (some true) else (some false))))
end
def laws_FnExactCountByAround.f (k : Nat) (a0_0 : Int) (a0_1 : Int) (a0_2 : Bool) (a0_3 : Bool) (a1_0 : Int) (a1_1 : Int) (a2 : Int) : Option (Bool) := (laws_toAround.f a0_0 a0_1 a0_2 a0_3).bind fun bt1165 => ((laws_toLeaper.f a1_0 a1_1).bind fun bt1169 => ((spec_CountByAround.f k bt1165.1 bt1165.2.1 bt1165.2.2.1 bt1165.2.2.2 bt1169.1 bt1169.2 a2).bind fun bt1171 => ((laws_toAround.f a0_0 a0_1 a0_2 a0_3).bind fun bt1175 => ((laws_toLeaper.f a1_0 a1_1).bind fun bt1179 => ((impl_CountByAround.f k bt1175.1 bt1175.2.1 bt1175.2.2.1 bt1175.2.2.2 bt1179.1 bt1179.2 a2).bind fun bt1181 => ((laws_eqIntS.f k bt1181.1 bt1171.1).bind fun t1185 => (if t1185 = true then (laws_FnExactCountByAround.j0 k a2 bt1171.1 bt1171.2 bt1181.1 (bt1181.2 != bt1171.2) a0_0 a0_1 a0_2 a0_3 a1_0 a1_1) else (laws_FnExactCountByAround.j0 k a2 bt1171.1 bt1171.2 bt1181.1 true a0_0 a0_1 a0_2 a0_3 a1_0 a1_1))))))))
def laws_FnExactCountByAround.T1 : Bool × List (List Nat × List Nat) := (true, [([], []), ([0], [0]), ([], []), ([2, 1], [2]), ([], []), ([1, 3, 4, 3], [1, 3, 4]), ([5], [5]), ([6], [6]), ([6], [6]), ([7, 5, 0, 1, 2, 3, 4, 5, 6, 7], [7]), ([8, 9, 0, 1, 2, 3, 4, 5, 6, 7, 8, 9], [8])])
def laws_FnExactCountByAround.B1 : List Nat := [0, 1, 0, 7, 0, 31, 63, 127, 127, 255, 1023]
theorem laws_FnExactCountByAround.tab1 : rtab .any (opsOf Try.f11 1) = laws_FnExactCountByAround.T1 := by kernel_rfl
theorem laws_FnExactCountByAround.bits1 : waitsOk laws_FnExactCountByAround.T1.2 laws_FnExactCountByAround.B1 = true := by kernel_rfl
def laws_FnExactCountByAround.T2 : Bool × List (List Nat × List Nat) := (true, [([], []), ([0], [0]), ([], []), ([2, 1], [2]), ([], []), ([1, 3, 4, 3], [1, 3, 4]), ([5], [5]), ([6], [6]), ([6], [6]), ([7, 5, 0, 1, 2, 3, 4, 5, 6, 7], [7]), ([8, 9, 0, 1, 2, 3, 4, 5, 6, 7, 8, 9], [8])])
def laws_FnExactCountByAround.B2 : List Nat := [0, 1, 0, 7, 0, 31, 63, 127, 127, 255, 1023]
theorem laws_FnExactCountByAround.tab2 : rtab .any (opsOf Try.f11 2) = laws_FnExactCountByAround.T2 := by kernel_rfl
theorem laws_FnExactCountByAround.bits2 : waitsOk laws_FnExactCountByAround.T2.2 laws_FnExactCountByAround.B2 = true := by kernel_rfl
def laws_FnExactCountByAround.T13 : Bool × List (List Nat × List Nat) := (true, [([], []), ([0], [0]), ([], []), ([2, 1], [2]), ([], []), ([1, 3, 4, 3], [1, 3, 4]), ([5], [5]), ([6], [6]), ([6], [6]), ([7, 5, 0, 1, 2, 3, 4, 5, 6, 7], [7]), ([8, 9, 0, 1, 2, 3, 4, 5, 6, 7, 8, 9], [8])])
def laws_FnExactCountByAround.B13 : List Nat := [0, 1, 0, 7, 0, 31, 63, 127, 127, 255, 1023]
theorem laws_FnExactCountByAround.tab13 : rtab .any (opsOf Try.f11 13) = laws_FnExactCountByAround.T13 := by kernel_rfl
theorem laws_FnExactCountByAround.bits13 : waitsOk laws_FnExactCountByAround.T13.2 laws_FnExactCountByAround.B13 = true := by kernel_rfl
set_option maxHeartbeats 8000000 in
set_option maxRecDepth 100000 in
theorem laws_FnExactCountByAround.calls (k : Nat) (a0_0 : Int) (a0_1 : Int) (a0_2 : Bool) (a0_3 : Bool) (a1_0 : Int) (a1_1 : Int) (a2 : Int) (r : Bool) (w : World) (h : laws_FnExactCountByAround.f k a0_0 a0_1 a0_2 a0_3 a1_0 a1_1 a2 = some r) :
  Calls Try.prog 11 #[.agg #[.int .i64 a0_0, .int .i64 a0_1, .bool a0_2, .bool a0_3], .agg #[.int .i64 a1_0, .int .i64 a1_1], .int .i64 a2] w fun e w' => e = .returned (.bool r) ∧ Below w.heap.size w w' := by
 have hu49 := Try.underlying49
 have hu26 := Try.underlying26
 have HB := Aside0.mk (Below.refl w.heap.size w)
 have H : ((laws_toAround.f a0_0 a0_1 a0_2 a0_3).bind fun bt1165 => ((laws_toLeaper.f a1_0 a1_1).bind fun bt1169 => ((spec_CountByAround.f k bt1165.1 bt1165.2.1 bt1165.2.2.1 bt1165.2.2.2 bt1169.1 bt1169.2 a2).bind fun bt1171 => ((laws_toAround.f a0_0 a0_1 a0_2 a0_3).bind fun bt1175 => ((laws_toLeaper.f a1_0 a1_1).bind fun bt1179 => ((impl_CountByAround.f k bt1175.1 bt1175.2.1 bt1175.2.2.1 bt1175.2.2.2 bt1179.1 bt1179.2 a2).bind fun bt1181 => ((laws_eqIntS.f k bt1181.1 bt1171.1).bind fun t1185 => (if t1185 = true then (laws_FnExactCountByAround.j0 k a2 bt1171.1 bt1171.2 bt1181.1 (bt1181.2 != bt1171.2) a0_0 a0_1 a0_2 a0_3 a1_0 a1_1) else (laws_FnExactCountByAround.j0 k a2 bt1171.1 bt1171.2 bt1181.1 true a0_0 a0_1 a0_2 a0_3 a1_0 a1_1))))))))) = some r := h
 clear h
 replace H := Option.bind_eq_some_iff.mp H
 obtain ⟨⟨t1165, t1166, t1167, t1168⟩, A40, H⟩ := H
 replace H : ((laws_toLeaper.f a1_0 a1_1).bind fun bt1169 => ((spec_CountByAround.f k t1165 t1166 t1167 t1168 bt1169.1 bt1169.2 a2).bind fun bt1171 => ((laws_toAround.f a0_0 a0_1 a0_2 a0_3).bind fun bt1175 => ((laws_toLeaper.f a1_0 a1_1).bind fun bt1179 => ((impl_CountByAround.f k bt1175.1 bt1175.2.1 bt1175.2.2.1 bt1175.2.2.2 bt1179.1 bt1179.2 a2).bind fun bt1181 => ((laws_eqIntS.f k bt1181.1 bt1171.1).bind fun t1185 => (if t1185 = true then (laws_FnExactCountByAround.j0 k a2 bt1171.1 bt1171.2 bt1181.1 (bt1181.2 != bt1171.2) a0_0 a0_1 a0_2 a0_3 a1_0 a1_1) else (laws_FnExactCountByAround.j0 k a2 bt1171.1 bt1171.2 bt1181.1 true a0_0 a0_1 a0_2 a0_3 a1_0 a1_1)))))))) = some r := H
 have A4 := Aside0.mk A40
 clear A40
 replace H := Option.bind_eq_some_iff.mp H
 obtain ⟨⟨t1169, t1170⟩, A50, H⟩ := H
 replace H : ((spec_CountByAround.f k t1165 t1166 t1167 t1168 t1169 t1170 a2).bind fun bt1171 => ((laws_toAround.f a0_0 a0_1 a0_2 a0_3).bind fun bt1175 => ((laws_toLeaper.f a1_0 a1_1).bind fun bt1179 => ((impl_CountByAround.f k bt1175.1 bt1175.2.1 bt1175.2.2.1 bt1175.2.2.2 bt1179.1 bt1179.2 a2).bind fun bt1181 => ((laws_eqIntS.f k bt1181.1 bt1171.1).bind fun t1185 => (if t1185 = true then (laws_FnExactCountByAround.j0 k a2 bt1171.1 bt1171.2 bt1181.1 (bt1181.2 != bt1171.2) a0_0 a0_1 a0_2 a0_3 a1_0 a1_1) else (laws_FnExactCountByAround.j0 k a2 bt1171.1 bt1171.2 bt1181.1 true a0_0 a0_1 a0_2 a0_3 a1_0 a1_1))))))) = some r := H
 have A5 := Aside0.mk A50
 clear A50
 replace H := Option.bind_eq_some_iff.mp H
 obtain ⟨⟨t1171, t1174⟩, A60, H⟩ := H
 replace H : ((laws_toAround.f a0_0 a0_1 a0_2 a0_3).bind fun bt1175 => ((laws_toLeaper.f a1_0 a1_1).bind fun bt1179 => ((impl_CountByAround.f k bt1175.1 bt1175.2.1 bt1175.2.2.1 bt1175.2.2.2 bt1179.1 bt1179.2 a2).bind fun bt1181 => ((laws_eqIntS.f k bt1181.1 t1171).bind fun t1185 => (if t1185 = true then (laws_FnExactCountByAround.j0 k a2 t1171 t1174 bt1181.1 (bt1181.2 != t1174) a0_0 a0_1 a0_2 a0_3 a1_0 a1_1) else (laws_FnExactCountByAround.j0 k a2 t1171 t1174 bt1181.1 true a0_0 a0_1 a0_2 a0_3 a1_0 a1_1)))))) = some r := H
 have A6 := Aside0.mk A60
 clear A60
 replace H := Option.bind_eq_some_iff.mp H
 obtain ⟨⟨t1175, t1176, t1177, t1178⟩, A70, H⟩ := H
 replace H : ((laws_toLeaper.f a1_0 a1_1).bind fun bt1179 => ((impl_CountByAround.f k t1175 t1176 t1177 t1178 bt1179.1 bt1179.2 a2).bind fun bt1181 => ((laws_eqIntS.f k bt1181.1 t1171).bind fun t1185 => (if t1185 = true then (laws_FnExactCountByAround.j0 k a2 t1171 t1174 bt1181.1 (bt1181.2 != t1174) a0_0 a0_1 a0_2 a0_3 a1_0 a1_1) else (laws_FnExactCountByAround.j0 k a2 t1171 t1174 bt1181.1 true a0_0 a0_1 a0_2 a0_3 a1_0 a1_1))))) = some r := H
 have A7 := Aside0.mk A70
 clear A70
 replace H := Option.bind_eq_some_iff.mp H
 obtain ⟨⟨t1179, t1180⟩, A80, H⟩ := H
 replace H : ((impl_CountByAround.f k t1175 t1176 t1177 t1178 t1179 t1180 a2).bind fun bt1181 => ((laws_eqIntS.f k bt1181.1 t1171).bind fun t1185 => (if t1185 = true then (laws_FnExactCountByAround.j0 k a2 t1171 t1174 bt1181.1 (bt1181.2 != t1174) a0_0 a0_1 a0_2 a0_3 a1_0 a1_1) else (laws_FnExactCountByAround.j0 k a2 t1171 t1174 bt1181.1 true a0_0 a0_1 a0_2 a0_3 a1_0 a1_1)))) = some r := H
 have A8 := Aside0.mk A80
 clear A80
 replace H := Option.bind_eq_some_iff.mp H
 obtain ⟨⟨t1181, t1184⟩, A90, H⟩ := H
 replace H : ((laws_eqIntS.f k t1181 t1171).bind fun t1185 => (if t1185 = true then (laws_FnExactCountByAround.j0 k a2 t1171 t1174 t1181 (t1184 != t1174) a0_0 a0_1 a0_2 a0_3 a1_0 a1_1) else (laws_FnExactCountByAround.j0 k a2 t1171 t1174 t1181 true a0_0 a0_1 a0_2 a0_3 a1_0 a1_1))) = some r := H
 have A9 := Aside0.mk A90
 clear A90
 have HC10 := Aside0.mk H
 clear H
 go_enter Try.func11, Try.ntmps11
 try go_wp2_with (first | ((with_reducible refine gate_dst (N := 3) rfl ?_); refine box_event ?hg (N := 3) ?hd (cs := #[.int .i64 a0_0, .int .i64 a0_1, .bool a0_2, .bool a0_3]) (t := 49) ?hr ?_; (case hd => rfl); (case hg => rfl); (case hr => first | (go_simp; done) | (go_simp; rfl)); intro gb1163 hg w11 hbox hb; have n0_ := Aside0.mk (below_step (by repeat (first | (with_reducible first | exact HB.out | apply below_alloc | apply pw_below_drewN | apply below_drew1) | exact HB.out)) hb); have n1_ := Aside0.mk (hbox); have n2_ := Aside0.mk ((by rw [hg]; exact (below_size (by repeat (first | (with_reducible first | exact HB.out | apply below_alloc | apply pw_below_drewN | apply below_drew1) | exact HB.out))) : w.heap.size ≤ gb1163)); have n3_ := Aside0.mk ((by rw [hg]; exact (below_size (by repeat (first | (with_reducible first | exact HB.out | apply below_alloc | apply pw_below_drewN | apply below_drew1) | exact HB.out))) : w.heap.size ≤ gb1163)); clear HB; have HB := n0_; have BK1163 := n1_; have GW1163 := n2_; have GE1163 := n3_; clear n0_ n1_ n2_ n3_; clear hb hbox hg) | ((with_reducible refine gate_dst (N := 4) rfl ?_); refine box_event ?hg (N := 4) ?hd (cs := #[.int .i64 a1_0, .int .i64 a1_1]) (t := 26) ?hr ?_; (case hd => rfl); (case hg => rfl); (case hr => first | (go_simp; done) | (go_simp; rfl)); intro gb1164 hg w12 hbox hb; have n0_ := Aside0.mk (blk_below (g := gb1163) (o := .cells #[.int .i64 a0_0, .int .i64 a0_1, .bool a0_2, .bool a0_3] 49 (0, 0)) (by (with_reducible repeat (first | refine blk_drewN ?_ _ | refine blk_drew ?_ | refine blk_alloc ?_ _)); exact BK1163.out) hb); have n1_ := Aside0.mk (below_step (by repeat (first | (with_reducible first | exact HB.out | apply below_alloc | apply pw_below_drewN | apply below_drew1 | refine below_set ?_ GE1163.out) | exact HB.out)) hb); have n2_ := Aside0.mk (hbox); have n3_ := Aside0.mk ((by rw [hg]; exact (below_size (by repeat (first | (with_reducible first | exact HB.out | apply below_alloc | apply pw_below_drewN | apply below_drew1 | refine below_set ?_ GE1163.out) | exact HB.out))) : w.heap.size ≤ gb1164)); have n4_ := Aside0.mk ((by rw [hg]; exact (below_size (by repeat (first | (with_reducible first | exact HB.out | apply below_alloc | apply pw_below_drewN | apply below_drew1 | refine below_set ?_ GE1163.out) | exact HB.out))) : w.heap.size ≤ gb1164)); have n5_ := Aside0.mk ((by rw [hg]; exact Nat.ne_of_lt (blk_lt (g := gb1163) (o := .cells #[.int .i64 a0_0, .int .i64 a0_1, .bool a0_2, .bool a0_3] 49 (0, 0)) (by (with_reducible repeat (first | refine blk_drewN ?_ _ | refine blk_drew ?_ | refine blk_alloc ?_ _)); exact BK1163.out)) : gb1163 ≠ gb1164)); have n6_ := Aside0.mk ((by rw [hg]; exact Nat.ne_of_gt (blk_lt (g := gb1163) (o := .cells #[.int .i64 a0_0, .int .i64 a0_1, .bool a0_2, .bool a0_3] 49 (0, 0)) (by (with_reducible repeat (first | refine blk_drewN ?_ _ | refine blk_drew ?_ | refine blk_alloc ?_ _)); exact BK1163.out)) : gb1164 ≠ gb1163)); clear BK1163; clear HB; have BK1163 := n0_; have HB := n1_; have BK1164 := n2_; have GW1164 := n3_; have GE1164 := n4_; have NB1163_1164 := n5_; have NB1164_1163 := n6_; clear n0_ n1_ n2_ n3_ n4_ n5_ n6_; clear hb hbox hg))
 have n0_ := Aside0.mk (blk_drew BK1163.out)
 have n1_ := Aside0.mk (blk_drew BK1164.out)
 have n2_ := Aside0.mk (below_drew1 HB.out)
 clear BK1163
 clear BK1164
 clear HB
 have BK1163 := n0_
 have BK1164 := n1_
 have HB := n2_
 clear n0_ n1_ n2_
 refine start_ (n := 11) (S := fun w' => w'.cell? ⟨gb1163, 0, none⟩ = some (.int .i64 a0_0) ∧ w'.cell? ⟨gb1163, 1, none⟩ = some (.int .i64 a0_1) ∧ w'.cell? ⟨gb1163, 2, none⟩ = some (.bool a0_2) ∧ w'.cell? ⟨gb1163, 3, none⟩ = some (.bool a0_3) ∧ w'.cell? ⟨gb1164, 0, none⟩ = some (.int .i64 a1_0) ∧ w'.cell? ⟨gb1164, 1, none⟩ = some (.int .i64 a1_1)) (ds := []) #[false, false, false, false, false, false, false, false, false, false, false] (by kernel_rfl) rfl rfl ⟨(blk_cell BK1163.out 0).trans rfl, (blk_cell BK1163.out 1).trans rfl, (blk_cell BK1163.out 2).trans rfl, (blk_cell BK1163.out 3).trans rfl, (blk_cell BK1164.out 0).trans rfl, (blk_cell BK1164.out 1).trans rfl⟩ (fun hHeld => ?_); refine with_tabW laws_FnExactCountByAround.tab1 laws_FnExactCountByAround.bits1 (fun HT_ HW_ => ?_)
 generalize w12.drew = w13 at BK1163 BK1164 HB hHeld ⊢
 refine pure_ (i := 4) (N := some 20) (v := ?_) (a' := ?_) #[false, false, false, false, true, false, false, false, false, false, false] rfl rfl (any_of HT_.out (by kernel_rfl)) (fun _ _ _ h => h) (Or.inl ⟨by rfl, ?_⟩) ?_ ?_
 rotate_left
 ·intro w'
  go_simp
  with_reducible rfl
 rotate_left
 ·simp only [Act.put, List.setIfInBounds_toArray, List.set_cons_zero, List.set_cons_succ, i64_w, i32_w]
  rfl
 refine take_ (i := 0) (N := some 16) (v := ?_) (a' := ?_) #[true, false, false, false, true, false, false, false, false, false, false] rfl rfl (take_ofW HT_.out HW_.out (by kernel_rfl)) (fun _ _ _ h => h) (Or.inl ⟨by rfl, ?_⟩) hHeld ?_ ?_
 rotate_left
 ·rintro w' ⟨s0, s1, s2, s3, s4, s5⟩
  go_simp
  with_reducible rfl
 rotate_left
 ·simp only [Act.put, List.setIfInBounds_toArray, List.set_cons_zero, List.set_cons_succ, i64_w, i32_w]
  rfl
 refine take_ (i := 2) (N := some 18) (v := ?_) (a' := ?_) #[true, false, true, false, true, false, false, false, false, false, false] rfl rfl (take_ofW HT_.out HW_.out (by kernel_rfl)) (fun _ _ _ h => h) (Or.inl ⟨by rfl, ?_⟩) hHeld ?_ ?_
 rotate_left
 ·rintro w' ⟨s0, s1, s2, s3, s4, s5⟩
  go_simp
  with_reducible rfl
 rotate_left
 ·simp only [Act.put, List.setIfInBounds_toArray, List.set_cons_zero, List.set_cons_succ, i64_w, i32_w]
  rfl
 refine one_ (i := 1) (N := some 17) #[true, true, true, false, true, false, false, false, false, false, false] rfl rfl (one_of HT_.out (by kernel_rfl)) (by decide) (fun K hK => ?_)
 refine goes_ Try.func41 (by kernel_rfl) rfl #[.agg #[.int .i64 a0_0, .int .i64 a0_1, .bool a0_2, .bool a0_3]] (by rfl) rfl rfl (by (try simp only [List.map_toArray, List.map_cons, List.map_nil]); first | done | rfl | (simp only [List.length_drop, List.length_take]; rfl)) ?_
 with_reducible refine (laws_toAround.calls a0_0 a0_1 a0_2 a0_3 t1165 t1166 t1167 t1168 _ A4.out).mono ?_
 rintro e w14 ⟨rfl, hb⟩
 refine ⟨_, rfl, ?_⟩
 have n0_ := Aside0.mk (blk_below (g := gb1163) (o := .cells #[.int .i64 a0_0, .int .i64 a0_1, .bool a0_2, .bool a0_3] 49 (0, 0)) (by (with_reducible repeat (first | refine blk_drewN ?_ _ | refine blk_drew ?_ | refine blk_alloc ?_ _)); exact BK1163.out) hb)
 have n1_ := Aside0.mk (blk_below (g := gb1164) (o := .cells #[.int .i64 a1_0, .int .i64 a1_1] 26 (0, 0)) (by (with_reducible repeat (first | refine blk_drewN ?_ _ | refine blk_drew ?_ | refine blk_alloc ?_ _)); exact BK1164.out) hb)
 have n2_ := Aside0.mk (below_step (by repeat (first | (with_reducible first | exact HB.out | apply below_alloc | apply pw_below_drewN | apply below_drew1 | refine below_set ?_ GE1163.out | refine below_set ?_ GE1164.out) | exact HB.out)) hb)
 clear BK1163
 clear BK1164
 clear HB
 have BK1163 := n0_
 have BK1164 := n1_
 have HB := n2_
 clear n0_ n1_ n2_
 (try clear hb)
 (try clear hb2)
 (try clear hk)
 (try clear hi)
 (try clear hna_)
 (try clear hnb_)
 refine hK.out _ _ ⟨(blk_cell BK1163.out 0).trans rfl, (blk_cell BK1163.out 1).trans rfl, (blk_cell BK1163.out 2).trans rfl, (blk_cell BK1163.out 3).trans rfl, (blk_cell BK1164.out 0).trans rfl, (blk_cell BK1164.out 1).trans rfl⟩ (fun hHeld => ?_)
 clear hK K
 refine norm_ (a' := ?_) ?_ ?_
 rotate_left
 ·show Act.put _ (some 17) _ = _
  simp only [Act.put, List.setIfInBounds_toArray, List.set_cons_zero, List.set_cons_succ, i64_w, i32_w]
  rfl
 refine one_ (i := 3) (N := some 19) #[true, true, true, true, true, false, false, false, false, false, false] rfl rfl (one_of HT_.out (by kernel_rfl)) (by decide) (fun K hK => ?_)
 refine goes_ Try.func18 (by kernel_rfl) rfl #[.agg #[.int .i64 a1_0, .int .i64 a1_1]] (by rfl) rfl rfl (by (try simp only [List.map_toArray, List.map_cons, List.map_nil]); first | done | rfl | (simp only [List.length_drop, List.length_take]; rfl)) ?_
 with_reducible refine (laws_toLeaper.calls a1_0 a1_1 t1169 t1170 _ A5.out).mono ?_
 rintro e w15 ⟨rfl, hb⟩
 refine ⟨_, rfl, ?_⟩
 have n0_ := Aside0.mk (blk_below (g := gb1163) (o := .cells #[.int .i64 a0_0, .int .i64 a0_1, .bool a0_2, .bool a0_3] 49 (0, 0)) (by (with_reducible repeat (first | refine blk_drewN ?_ _ | refine blk_drew ?_ | refine blk_alloc ?_ _)); exact BK1163.out) hb)
 have n1_ := Aside0.mk (blk_below (g := gb1164) (o := .cells #[.int .i64 a1_0, .int .i64 a1_1] 26 (0, 0)) (by (with_reducible repeat (first | refine blk_drewN ?_ _ | refine blk_drew ?_ | refine blk_alloc ?_ _)); exact BK1164.out) hb)
 have n2_ := Aside0.mk (below_step (by repeat (first | (with_reducible first | exact HB.out | apply below_alloc | apply pw_below_drewN | apply below_drew1 | refine below_set ?_ GE1163.out | refine below_set ?_ GE1164.out) | exact HB.out)) hb)
 clear BK1163
 clear BK1164
 clear HB
 have BK1163 := n0_
 have BK1164 := n1_
 have HB := n2_
 clear n0_ n1_ n2_
 (try clear hb)
 (try clear hb2)
 (try clear hk)
 (try clear hi)
 (try clear hna_)
 (try clear hnb_)
 refine hK.out _ _ ⟨(blk_cell BK1163.out 0).trans rfl, (blk_cell BK1163.out 1).trans rfl, (blk_cell BK1163.out 2).trans rfl, (blk_cell BK1163.out 3).trans rfl, (blk_cell BK1164.out 0).trans rfl, (blk_cell BK1164.out 1).trans rfl⟩ (fun hHeld => ?_)
 clear hK K
 refine norm_ (a' := ?_) ?_ ?_
 rotate_left
 ·show Act.put _ (some 19) _ = _
  simp only [Act.put, List.setIfInBounds_toArray, List.set_cons_zero, List.set_cons_succ, i64_w, i32_w]
  rfl
 refine one_ (i := 5) (N := some 21) #[true, true, true, true, true, true, false, false, false, false, false] rfl rfl (one_of HT_.out (by kernel_rfl)) (by decide) (fun K hK => ?_)
 refine goes_ Try.func40 (by kernel_rfl) rfl #[.agg #[.int .i64 t1165, .int .i64 t1166, .bool t1167, .bool t1168], .agg #[.int .i64 t1169, .int .i64 t1170], .int .i64 a2] (by rfl) rfl rfl (by (try simp only [List.map_toArray, List.map_cons, List.map_nil]); first | done | rfl | (simp only [List.length_drop, List.length_take]; rfl)) ?_
 with_reducible refine (spec_CountByAround.calls k t1165 t1166 t1167 t1168 t1169 t1170 a2 t1171 t1174 _ A6.out).mono ?_
 rintro e w16 ⟨v1172, rfl, ho0, hb⟩
 refine ⟨_, rfl, ?_⟩
 have n0_ := Aside0.mk (Kd.R_lower ho0 (below_size (by repeat (first | (with_reducible first | exact HB.out | apply below_alloc | apply pw_below_drewN | apply below_drew1 | refine below_set ?_ GE1163.out | refine below_set ?_ GE1164.out) | exact HB.out))))
 have n1_ := Aside0.mk (blk_below (g := gb1163) (o := .cells #[.int .i64 a0_0, .int .i64 a0_1, .bool a0_2, .bool a0_3] 49 (0, 0)) (by (with_reducible repeat (first | refine blk_drewN ?_ _ | refine blk_drew ?_ | refine blk_alloc ?_ _)); exact BK1163.out) hb)
 have n2_ := Aside0.mk (blk_below (g := gb1164) (o := .cells #[.int .i64 a1_0, .int .i64 a1_1] 26 (0, 0)) (by (with_reducible repeat (first | refine blk_drewN ?_ _ | refine blk_drew ?_ | refine blk_alloc ?_ _)); exact BK1164.out) hb)
 have n3_ := Aside0.mk (below_step (by repeat (first | (with_reducible first | exact HB.out | apply below_alloc | apply pw_below_drewN | apply below_drew1 | refine below_set ?_ GE1163.out | refine below_set ?_ GE1164.out) | exact HB.out)) hb)
 clear BK1163
 clear BK1164
 clear HB
 have HO1173 := n0_
 have BK1163 := n1_
 have BK1164 := n2_
 have HB := n3_
 clear n0_ n1_ n2_ n3_
 (try clear hb)
 (try clear hb2)
 (try clear hk)
 (try clear hi)
 (try clear ho0)
 (try clear hna_)
 (try clear hnb_)
 refine hK.out _ _ ⟨(blk_cell BK1163.out 0).trans rfl, (blk_cell BK1163.out 1).trans rfl, (blk_cell BK1163.out 2).trans rfl, (blk_cell BK1163.out 3).trans rfl, (blk_cell BK1164.out 0).trans rfl, (blk_cell BK1164.out 1).trans rfl⟩ (fun hHeld => ?_)
 clear hK K
 refine norm_ (a' := ?_) ?_ ?_
 rotate_left
 ·show Act.put _ (some 21) _ = _
  simp only [Act.put, List.setIfInBounds_toArray, List.set_cons_zero, List.set_cons_succ, i64_w, i32_w]
  rfl
 refine pure_ (i := 6) (N := some 15) (v := ?_) (a' := ?_) #[true, true, true, true, true, true, true, false, false, false, false] rfl rfl (any_of HT_.out (by kernel_rfl)) (fun _ _ _ h => h) (Or.inl ⟨by rfl, ?_⟩) ?_ ?_
 rotate_left
 ·intro w'
  go_simp
  with_reducible rfl
 rotate_left
 ·simp only [Act.put, List.setIfInBounds_toArray, List.set_cons_zero, List.set_cons_succ, i64_w, i32_w]
  rfl
 refine pure_ (i := 7) (N := some 22) (v := ?_) (a' := ?_) #[true, true, true, true, true, true, true, true, false, false, false] rfl rfl (any_of HT_.out (by kernel_rfl)) (fun _ _ _ h => h) (Or.inl ⟨by rfl, ?_⟩) ?_ ?_
 rotate_left
 ·intro w'
  go_simp
  with_reducible rfl
 rotate_left
 ·simp only [Act.put, List.setIfInBounds_toArray, List.set_cons_zero, List.set_cons_succ, i64_w, i32_w]
  rfl
 refine pure_ (i := 8) (N := some 23) (v := ?_) (a' := ?_) #[true, true, true, true, true, true, true, true, true, false, false] rfl rfl (any_of HT_.out (by kernel_rfl)) (fun _ _ _ h => h) (Or.inl ⟨by rfl, ?_⟩) ?_ ?_
 rotate_left
 ·intro w'
  go_simp
  with_reducible rfl
 rotate_left
 ·simp only [Act.put, List.setIfInBounds_toArray, List.set_cons_zero, List.set_cons_succ, i64_w, i32_w]
  rfl
 refine pure_ (i := 9) (N := some 7) (v := ?_) (a' := ?_) #[true, true, true, true, true, true, true, true, true, true, false] rfl rfl (any_of HT_.out (by kernel_rfl)) (fun _ _ _ h => h) (Or.inl ⟨by rfl, ?_⟩) ?_ ?_
 rotate_left
 ·intro w'
  go_simp
  with_reducible rfl
 rotate_left
 ·simp only [Act.put, List.setIfInBounds_toArray, List.set_cons_zero, List.set_cons_succ, i64_w, i32_w]
  rfl
 refine pure_ (i := 10) (N := some 8) (v := ?_) (a' := ?_) #[true, true, true, true, true, true, true, true, true, true, true] rfl rfl (any_of HT_.out (by kernel_rfl)) (fun _ _ _ h => h) (Or.inl ⟨by rfl, ?_⟩) ?_ ?_
 rotate_left
 ·intro w'
  go_simp
  with_reducible rfl
 rotate_left
 ·simp only [Act.put, List.setIfInBounds_toArray, List.set_cons_zero, List.set_cons_succ, i64_w, i32_w]
  rfl
 refine done_ (done_of HT_.out (by kernel_rfl)) ?_
 try go_wp2
 have n0_ := Aside0.mk (Kd.R_drew HO1173.out)
 have n1_ := Aside0.mk (blk_drew BK1163.out)
 have n2_ := Aside0.mk (blk_drew BK1164.out)
 have n3_ := Aside0.mk (below_drew1 HB.out)
 clear HO1173
 clear BK1163
 clear BK1164
 clear HB
 have HO1173 := n0_
 have BK1163 := n1_
 have BK1164 := n2_
 have HB := n3_
 clear n0_ n1_ n2_ n3_
 refine start_ (n := 11) (S := fun w' => w'.cell? ⟨gb1163, 0, none⟩ = some (.int .i64 a0_0) ∧ w'.cell? ⟨gb1163, 1, none⟩ = some (.int .i64 a0_1) ∧ w'.cell? ⟨gb1163, 2, none⟩ = some (.bool a0_2) ∧ w'.cell? ⟨gb1163, 3, none⟩ = some (.bool a0_3) ∧ w'.cell? ⟨gb1164, 0, none⟩ = some (.int .i64 a1_0) ∧ w'.cell? ⟨gb1164, 1, none⟩ = some (.int .i64 a1_1)) (ds := []) #[false, false, false, false, false, false, false, false, false, false, false] (by kernel_rfl) rfl rfl ⟨(blk_cell BK1163.out 0).trans rfl, (blk_cell BK1163.out 1).trans rfl, (blk_cell BK1163.out 2).trans rfl, (blk_cell BK1163.out 3).trans rfl, (blk_cell BK1164.out 0).trans rfl, (blk_cell BK1164.out 1).trans rfl⟩ (fun hHeld => ?_); refine with_tabW laws_FnExactCountByAround.tab2 laws_FnExactCountByAround.bits2 (fun HT_ HW_ => ?_)
 generalize w16.drew = w17 at HO1173 BK1163 BK1164 HB hHeld ⊢
 refine pure_ (i := 4) (N := some 29) (v := ?_) (a' := ?_) #[false, false, false, false, true, false, false, false, false, false, false] rfl rfl (any_of HT_.out (by kernel_rfl)) (fun _ _ _ h => h) (Or.inl ⟨by rfl, ?_⟩) ?_ ?_
 rotate_left
 ·intro w'
  go_simp
  with_reducible rfl
 rotate_left
 ·simp only [Act.put, List.setIfInBounds_toArray, List.set_cons_zero, List.set_cons_succ, i64_w, i32_w]
  rfl
 refine take_ (i := 0) (N := some 25) (v := ?_) (a' := ?_) #[true, false, false, false, true, false, false, false, false, false, false] rfl rfl (take_ofW HT_.out HW_.out (by kernel_rfl)) (fun _ _ _ h => h) (Or.inl ⟨by rfl, ?_⟩) hHeld ?_ ?_
 rotate_left
 ·rintro w' ⟨s0, s1, s2, s3, s4, s5⟩
  go_simp
  with_reducible rfl
 rotate_left
 ·simp only [Act.put, List.setIfInBounds_toArray, List.set_cons_zero, List.set_cons_succ, i64_w, i32_w]
  rfl
 refine take_ (i := 2) (N := some 27) (v := ?_) (a' := ?_) #[true, false, true, false, true, false, false, false, false, false, false] rfl rfl (take_ofW HT_.out HW_.out (by kernel_rfl)) (fun _ _ _ h => h) (Or.inl ⟨by rfl, ?_⟩) hHeld ?_ ?_
 rotate_left
 ·rintro w' ⟨s0, s1, s2, s3, s4, s5⟩
  go_simp
  with_reducible rfl
 rotate_left
 ·simp only [Act.put, List.setIfInBounds_toArray, List.set_cons_zero, List.set_cons_succ, i64_w, i32_w]
  rfl
 refine one_ (i := 1) (N := some 26) #[true, true, true, false, true, false, false, false, false, false, false] rfl rfl (one_of HT_.out (by kernel_rfl)) (by decide) (fun K hK => ?_)
 refine goes_ Try.func41 (by kernel_rfl) rfl #[.agg #[.int .i64 a0_0, .int .i64 a0_1, .bool a0_2, .bool a0_3]] (by rfl) rfl rfl (by (try simp only [List.map_toArray, List.map_cons, List.map_nil]); first | done | rfl | (simp only [List.length_drop, List.length_take]; rfl)) ?_
 with_reducible refine (laws_toAround.calls a0_0 a0_1 a0_2 a0_3 t1175 t1176 t1177 t1178 _ A7.out).mono ?_
 rintro e w18 ⟨rfl, hb⟩
 refine ⟨_, rfl, ?_⟩
 have n0_ := Aside0.mk (Kd.R_below (by (with_reducible repeat (first | apply Kd.R_alloc | apply Kd.R_drewN | apply Kd.R_drew)); exact HO1173.out) hb)
 have n1_ := Aside0.mk (blk_below (g := gb1163) (o := .cells #[.int .i64 a0_0, .int .i64 a0_1, .bool a0_2, .bool a0_3] 49 (0, 0)) (by (with_reducible repeat (first | refine blk_drewN ?_ _ | refine blk_drew ?_ | refine blk_alloc ?_ _)); exact BK1163.out) hb)
 have n2_ := Aside0.mk (blk_below (g := gb1164) (o := .cells #[.int .i64 a1_0, .int .i64 a1_1] 26 (0, 0)) (by (with_reducible repeat (first | refine blk_drewN ?_ _ | refine blk_drew ?_ | refine blk_alloc ?_ _)); exact BK1164.out) hb)
 have n3_ := Aside0.mk (below_step (by repeat (first | (with_reducible first | exact HB.out | apply below_alloc | apply pw_below_drewN | apply below_drew1 | refine below_set ?_ GE1163.out | refine below_set ?_ GE1164.out) | exact HB.out)) hb)
 clear HO1173
 clear BK1163
 clear BK1164
 clear HB
 have HO1173 := n0_
 have BK1163 := n1_
 have BK1164 := n2_
 have HB := n3_
 clear n0_ n1_ n2_ n3_
 (try clear hb)
 (try clear hb2)
 (try clear hk)
 (try clear hi)
 (try clear hna_)
 (try clear hnb_)
 refine hK.out _ _ ⟨(blk_cell BK1163.out 0).trans rfl, (blk_cell BK1163.out 1).trans rfl, (blk_cell BK1163.out 2).trans rfl, (blk_cell BK1163.out 3).trans rfl, (blk_cell BK1164.out 0).trans rfl, (blk_cell BK1164.out 1).trans rfl⟩ (fun hHeld => ?_)
 clear hK K
 refine norm_ (a' := ?_) ?_ ?_
 rotate_left
 ·show Act.put _ (some 26) _ = _
  simp only [Act.put, List.setIfInBounds_toArray, List.set_cons_zero, List.set_cons_succ, i64_w, i32_w]
  rfl
 refine one_ (i := 3) (N := some 28) #[true, true, true, true, true, false, false, false, false, false, false] rfl rfl (one_of HT_.out (by kernel_rfl)) (by decide) (fun K hK => ?_)
 refine goes_ Try.func18 (by kernel_rfl) rfl #[.agg #[.int .i64 a1_0, .int .i64 a1_1]] (by rfl) rfl rfl (by (try simp only [List.map_toArray, List.map_cons, List.map_nil]); first | done | rfl | (simp only [List.length_drop, List.length_take]; rfl)) ?_
 with_reducible refine (laws_toLeaper.calls a1_0 a1_1 t1179 t1180 _ A8.out).mono ?_
 rintro e w19 ⟨rfl, hb⟩
 refine ⟨_, rfl, ?_⟩
 have n0_ := Aside0.mk (Kd.R_below (by (with_reducible repeat (first | apply Kd.R_alloc | apply Kd.R_drewN | apply Kd.R_drew)); exact HO1173.out) hb)
 have n1_ := Aside0.mk (blk_below (g := gb1163) (o := .cells #[.int .i64 a0_0, .int .i64 a0_1, .bool a0_2, .bool a0_3] 49 (0, 0)) (by (with_reducible repeat (first | refine blk_drewN ?_ _ | refine blk_drew ?_ | refine blk_alloc ?_ _)); exact BK1163.out) hb)
 have n2_ := Aside0.mk (blk_below (g := gb1164) (o := .cells #[.int .i64 a1_0, .int .i64 a1_1] 26 (0, 0)) (by (with_reducible repeat (first | refine blk_drewN ?_ _ | refine blk_drew ?_ | refine blk_alloc ?_ _)); exact BK1164.out) hb)
 have n3_ := Aside0.mk (below_step (by repeat (first | (with_reducible first | exact HB.out | apply below_alloc | apply pw_below_drewN | apply below_drew1 | refine below_set ?_ GE1163.out | refine below_set ?_ GE1164.out) | exact HB.out)) hb)
 clear HO1173
 clear BK1163
 clear BK1164
 clear HB
 have HO1173 := n0_
 have BK1163 := n1_
 have BK1164 := n2_
 have HB := n3_
 clear n0_ n1_ n2_ n3_
 (try clear hb)
 (try clear hb2)
 (try clear hk)
 (try clear hi)
 (try clear hna_)
 (try clear hnb_)
 refine hK.out _ _ ⟨(blk_cell BK1163.out 0).trans rfl, (blk_cell BK1163.out 1).trans rfl, (blk_cell BK1163.out 2).trans rfl, (blk_cell BK1163.out 3).trans rfl, (blk_cell BK1164.out 0).trans rfl, (blk_cell BK1164.out 1).trans rfl⟩ (fun hHeld => ?_)
 clear hK K
 refine norm_ (a' := ?_) ?_ ?_
 rotate_left
 ·show Act.put _ (some 28) _ = _
  simp only [Act.put, List.setIfInBounds_toArray, List.set_cons_zero, List.set_cons_succ, i64_w, i32_w]
  rfl
 refine one_ (i := 5) (N := some 30) #[true, true, true, true, true, true, false, false, false, false, false] rfl rfl (one_of HT_.out (by kernel_rfl)) (by decide) (fun K hK => ?_)
 refine goes_ Try.func42 (by kernel_rfl) rfl #[.agg #[.int .i64 t1175, .int .i64 t1176, .bool t1177, .bool t1178], .agg #[.int .i64 t1179, .int .i64 t1180], .int .i64 a2] (by rfl) rfl rfl (by (try simp only [List.map_toArray, List.map_cons, List.map_nil]); first | done | rfl | (simp only [List.length_drop, List.length_take]; rfl)) ?_
 with_reducible refine (impl_CountByAround.calls k t1175 t1176 t1177 t1178 t1179 t1180 a2 t1181 t1184 _ A9.out).mono ?_
 rintro e w20 ⟨v1182, rfl, ho0, hb⟩
 refine ⟨_, rfl, ?_⟩
 have n0_ := Aside0.mk (Kd.R_elder' (by (with_reducible repeat (first | apply Kd.R_alloc | apply Kd.R_drewN | apply Kd.R_drew)); exact HO1173.out) (Kd.R_base ho0) hb)
 have n1_ := Aside0.mk (Kd.R_lower (Kd.R_new' ho0 (Kd.R_lt (by (with_reducible repeat (first | apply Kd.R_alloc | apply Kd.R_drewN | apply Kd.R_drew)); exact HO1173.out))) (below_size (by repeat (first | (with_reducible first | exact HB.out | apply below_alloc | apply pw_below_drewN | apply below_drew1 | refine below_set ?_ GE1163.out | refine below_set ?_ GE1164.out) | exact HB.out))))
 have n2_ := Aside0.mk (blk_below (g := gb1163) (o := .cells #[.int .i64 a0_0, .int .i64 a0_1, .bool a0_2, .bool a0_3] 49 (0, 0)) (by (with_reducible repeat (first | refine blk_drewN ?_ _ | refine blk_drew ?_ | refine blk_alloc ?_ _)); exact BK1163.out) hb)
 have n3_ := Aside0.mk (blk_below (g := gb1164) (o := .cells #[.int .i64 a1_0, .int .i64 a1_1] 26 (0, 0)) (by (with_reducible repeat (first | refine blk_drewN ?_ _ | refine blk_drew ?_ | refine blk_alloc ?_ _)); exact BK1164.out) hb)
 have n4_ := Aside0.mk (below_step (by repeat (first | (with_reducible first | exact HB.out | apply below_alloc | apply pw_below_drewN | apply below_drew1 | refine below_set ?_ GE1163.out | refine below_set ?_ GE1164.out) | exact HB.out)) hb)
 clear HO1173
 clear BK1163
 clear BK1164
 clear HB
 have HO1173 := n0_
 have HO1183 := n1_
 have BK1163 := n2_
 have BK1164 := n3_
 have HB := n4_
 clear n0_ n1_ n2_ n3_ n4_
 (try clear hb)
 (try clear hb2)
 (try clear hk)
 (try clear hi)
 (try clear ho0)
 (try clear hna_)
 (try clear hnb_)
 refine hK.out _ _ ⟨(blk_cell BK1163.out 0).trans rfl, (blk_cell BK1163.out 1).trans rfl, (blk_cell BK1163.out 2).trans rfl, (blk_cell BK1163.out 3).trans rfl, (blk_cell BK1164.out 0).trans rfl, (blk_cell BK1164.out 1).trans rfl⟩ (fun hHeld => ?_)
 clear hK K
 refine norm_ (a' := ?_) ?_ ?_
 rotate_left
 ·show Act.put _ (some 30) _ = _
  simp only [Act.put, List.setIfInBounds_toArray, List.set_cons_zero, List.set_cons_succ, i64_w, i32_w]
  rfl
 refine pure_ (i := 6) (N := some 24) (v := ?_) (a' := ?_) #[true, true, true, true, true, true, true, false, false, false, false] rfl rfl (any_of HT_.out (by kernel_rfl)) (fun _ _ _ h => h) (Or.inl ⟨by rfl, ?_⟩) ?_ ?_
 rotate_left
 ·intro w'
  go_simp
  with_reducible rfl
 rotate_left
 ·simp only [Act.put, List.setIfInBounds_toArray, List.set_cons_zero, List.set_cons_succ, i64_w, i32_w]
  rfl
 refine pure_ (i := 7) (N := some 31) (v := ?_) (a' := ?_) #[true, true, true, true, true, true, true, true, false, false, false] rfl rfl (any_of HT_.out (by kernel_rfl)) (fun _ _ _ h => h) (Or.inl ⟨by rfl, ?_⟩) ?_ ?_
 rotate_left
 ·intro w'
  go_simp
  with_reducible rfl
 rotate_left
 ·simp only [Act.put, List.setIfInBounds_toArray, List.set_cons_zero, List.set_cons_succ, i64_w, i32_w]
  rfl
 refine pure_ (i := 8) (N := some 32) (v := ?_) (a' := ?_) #[true, true, true, true, true, true, true, true, true, false, false] rfl rfl (any_of HT_.out (by kernel_rfl)) (fun _ _ _ h => h) (Or.inl ⟨by rfl, ?_⟩) ?_ ?_
 rotate_left
 ·intro w'
  go_simp
  with_reducible rfl
 rotate_left
 ·simp only [Act.put, List.setIfInBounds_toArray, List.set_cons_zero, List.set_cons_succ, i64_w, i32_w]
  rfl
 refine pure_ (i := 9) (N := some 9) (v := ?_) (a' := ?_) #[true, true, true, true, true, true, true, true, true, true, false] rfl rfl (any_of HT_.out (by kernel_rfl)) (fun _ _ _ h => h) (Or.inl ⟨by rfl, ?_⟩) ?_ ?_
 rotate_left
 ·intro w'
  go_simp
  with_reducible rfl
 rotate_left
 ·simp only [Act.put, List.setIfInBounds_toArray, List.set_cons_zero, List.set_cons_succ, i64_w, i32_w]
  rfl
 refine pure_ (i := 10) (N := some 10) (v := ?_) (a' := ?_) #[true, true, true, true, true, true, true, true, true, true, true] rfl rfl (any_of HT_.out (by kernel_rfl)) (fun _ _ _ h => h) (Or.inl ⟨by rfl, ?_⟩) ?_ ?_
 rotate_left
 ·intro w'
  go_simp
  with_reducible rfl
 rotate_left
 ·simp only [Act.put, List.setIfInBounds_toArray, List.set_cons_zero, List.set_cons_succ, i64_w, i32_w]
  rfl
 refine done_ (done_of HT_.out (by kernel_rfl)) ?_
 go_upto_region 3 with (fail)
 go_cut [41] (fun v41 wc => ∃ (kq : Nat) (x41_9 : Bool), v41 = .bool x41_9 ∧ Aside0 (laws_FnExactCountByAround.j0 kq a2 t1171 t1174 t1181 x41_9 a0_0 a0_1 a0_2 a0_3 a1_0 a1_1 = some r) ∧ Aside0 (kq ≤ k) ∧ Aside0 (Kd.R (Kd.int .i64) 3 wc w.heap.size (fun k_ => some k_ ≠ (v1182 : Value).ownBlock) v1172 t1171) ∧ Aside0 (Kd.R (Kd.int .i64) 3 wc w.heap.size (fun k_ => some k_ ≠ (v1172 : Value).ownBlock) v1182 t1181) ∧ Aside0 (wc.heap[gb1163]? = some (.cells #[.int .i64 a0_0, .int .i64 a0_1, .bool a0_2, .bool a0_3] 49 (0, 0))) ∧ Aside0 (wc.heap[gb1164]? = some (.cells #[.int .i64 a1_0, .int .i64 a1_1] 26 (0, 0))) ∧ Aside0 (Below w.heap.size w wc))
 case first =>
  have H := HC10.out
  clear HC10
  replace H := Option.bind_eq_some_iff.mp H
  obtain ⟨t1185, A210, H⟩ := H
  replace H : (if t1185 = true then (laws_FnExactCountByAround.j0 k a2 t1171 t1174 t1181 (t1184 != t1174) a0_0 a0_1 a0_2 a0_3 a1_0 a1_1) else (laws_FnExactCountByAround.j0 k a2 t1171 t1174 t1181 true a0_0 a0_1 a0_2 a0_3 a1_0 a1_1)) = some r := H
  have A21 := Aside0.mk A210
  clear A210
  by_cases c22 : t1185 = true
  ·subst c22
   have H1 : (laws_FnExactCountByAround.j0 k a2 t1171 t1174 t1181 (t1184 != t1174) a0_0 a0_1 a0_2 a0_3 a1_0 a1_1) = some r := by rw [if_pos rfl] at H; exact H
   clear H
   have H := H1
   clear H1
   have H' := Aside0.mk H
   clear H
   obtain ⟨Ao23, co23, eo23⟩ := Kd.R_slice HO1183.out
   subst eo23
   obtain ⟨Ao24, co24, eo24⟩ := Kd.R_slice HO1173.out
   subst eo24
   go_wp2_with (first | ((with_reducible refine gate_callee (f := 20) rfl ?_); refine goesL_ (some 35) rfl rfl Try.func20 (by kernel_rfl) rfl #[.slice Ao23 t1181.length co23, .slice Ao24 t1171.length co24] rfl (by (try simp only [List.map_toArray, List.map_cons, List.map_nil]); first | done | rfl | (simp only [List.length_drop, List.length_take]; rfl)) ?_; (with_reducible refine (laws_eqIntS.calls k _ _ t1181 _ _ t1171 true _ ?side1 ?side2 ?side3 ?side4 A21.out).mono ?_); (case side1 => repeat (first | exact (Kd.R_reads' HO1183.out).2.2 | (with_reducible refine Kd.C_alloc ?_ _) | (with_reducible refine Kd.C_drewN ?_ _) | (with_reducible refine Kd.C_drew ?_))); (case side2 => exact (Kd.R_reads' HO1183.out).2.1); (case side3 => repeat (first | exact (Kd.R_reads' HO1173.out).2.2 | (with_reducible refine Kd.C_alloc ?_ _) | (with_reducible refine Kd.C_drewN ?_ _) | (with_reducible refine Kd.C_drew ?_))); (case side4 => exact (Kd.R_reads' HO1173.out).2.1); rintro e w' ⟨rfl, ⟨nd, rfl⟩⟩; refine ⟨_, rfl, ?_⟩))
   go_meet
   case rel => exact ⟨_, ((t1184 != t1174)), (by first | rfl | (simp; done) | (simp [*]; done)), H', ⟨by first | omega | exact Nat.le_refl _⟩, ⟨by (with_reducible repeat (first | apply Kd.R_alloc | apply Kd.R_drewN | apply Kd.R_drew)); exact Kd.R_mono HO1173.out (fun _ hk => hk.2)⟩, ⟨by (with_reducible repeat (first | apply Kd.R_alloc | apply Kd.R_drewN | apply Kd.R_drew)); exact Kd.R_mono HO1183.out (fun _ hk => hk.2)⟩, ⟨by (with_reducible repeat (first | refine blk_drewN ?_ _ | refine blk_drew ?_ | refine blk_alloc ?_ _)); exact BK1163.out⟩, ⟨by (with_reducible repeat (first | refine blk_drewN ?_ _ | refine blk_drew ?_ | refine blk_alloc ?_ _)); exact BK1164.out⟩, ⟨by repeat (first | (with_reducible first | exact HB.out | apply below_alloc | apply pw_below_drewN | apply below_drew1 | refine below_set ?_ GE1163.out | refine below_set ?_ GE1164.out) | exact HB.out)⟩⟩
  ·replace c22 := Bool.eq_false_iff.mpr c22
   subst c22
   have H1 : (laws_FnExactCountByAround.j0 k a2 t1171 t1174 t1181 true a0_0 a0_1 a0_2 a0_3 a1_0 a1_1) = some r := by rw [if_neg (show ¬ (false = true) by decide)] at H; exact H
   clear H
   have H := H1
   clear H1
   have H' := Aside0.mk H
   clear H
   obtain ⟨Ao25, co25, eo25⟩ := Kd.R_slice HO1183.out
   subst eo25
   obtain ⟨Ao26, co26, eo26⟩ := Kd.R_slice HO1173.out
   subst eo26
   go_wp2_with (first | ((with_reducible refine gate_callee (f := 20) rfl ?_); refine goesL_ (some 35) rfl rfl Try.func20 (by kernel_rfl) rfl #[.slice Ao25 t1181.length co25, .slice Ao26 t1171.length co26] rfl (by (try simp only [List.map_toArray, List.map_cons, List.map_nil]); first | done | rfl | (simp only [List.length_drop, List.length_take]; rfl)) ?_; (with_reducible refine (laws_eqIntS.calls k _ _ t1181 _ _ t1171 false _ ?side1 ?side2 ?side3 ?side4 A21.out).mono ?_); (case side1 => repeat (first | exact (Kd.R_reads' HO1183.out).2.2 | (with_reducible refine Kd.C_alloc ?_ _) | (with_reducible refine Kd.C_drewN ?_ _) | (with_reducible refine Kd.C_drew ?_))); (case side2 => exact (Kd.R_reads' HO1183.out).2.1); (case side3 => repeat (first | exact (Kd.R_reads' HO1173.out).2.2 | (with_reducible refine Kd.C_alloc ?_ _) | (with_reducible refine Kd.C_drewN ?_ _) | (with_reducible refine Kd.C_drew ?_))); (case side4 => exact (Kd.R_reads' HO1173.out).2.1); rintro e w' ⟨rfl, ⟨nd, rfl⟩⟩; refine ⟨_, rfl, ?_⟩))
   go_meet
   case rel => exact ⟨_, (true), (by first | rfl | (simp; done) | (simp [*]; done)), H', ⟨by first | omega | exact Nat.le_refl _⟩, ⟨by (with_reducible repeat (first | apply Kd.R_alloc | apply Kd.R_drewN | apply Kd.R_drew)); exact Kd.R_mono HO1173.out (fun _ hk => hk.2)⟩, ⟨by (with_reducible repeat (first | apply Kd.R_alloc | apply Kd.R_drewN | apply Kd.R_drew)); exact Kd.R_mono HO1183.out (fun _ hk => hk.2)⟩, ⟨by (with_reducible repeat (first | refine blk_drewN ?_ _ | refine blk_drew ?_ | refine blk_alloc ?_ _)); exact BK1163.out⟩, ⟨by (with_reducible repeat (first | refine blk_drewN ?_ _ | refine blk_drew ?_ | refine blk_alloc ?_ _)); exact BK1164.out⟩, ⟨by repeat (first | (with_reducible first | exact HB.out | apply below_alloc | apply pw_below_drewN | apply below_drew1 | refine below_set ?_ GE1163.out | refine below_set ?_ GE1164.out) | exact HB.out)⟩⟩
 case rest =>
  clear HC10
  try clear c1; try clear c2; try clear p2; try clear c4; try clear c11; try clear c18; try clear c20; try clear c22
  obtain ⟨kq, x41_9, rfl, HA, HJ9, HO_7, HO_9, BK1163, BK1164, HB⟩ := hcut
  cases kq with
  | zero => exact absurd HA.out (by simp [laws_FnExactCountByAround.j0])
  | succ kj9 =>
   have H := HA.out
   clear HA
   simp only [laws_FnExactCountByAround.j0] at H
   by_cases c27 : x41_9 = true
   ·subst c27
    have H1 : (some false) = some r := by rw [if_pos rfl] at H; exact H
    clear H
    have H := H1
    clear H1
    obtain rfl := Option.some.inj H
    go_wp2
    go_ret
    exact ⟨by first | rfl | (simp [errW_none, errW_some] <;> rfl) | (simp [*, errW_none, errW_some] <;> rfl), by repeat (first | (with_reducible first | exact HB.out | apply below_alloc | apply pw_below_drewN | apply below_drew1 | refine below_set ?_ GE1163.out | refine below_set ?_ GE1164.out) | exact HB.out)⟩
   ·replace c27 := Bool.eq_false_iff.mpr c27
    subst c27
    have H1 : ((laws_markIntS.f kj9 t1181 1).bind fun bt1186 => ((laws_heldIntS.f kj9 bt1186.2 1).bind fun t1188 => (if t1188 < 0 then (some false) else (if t1188 = bt1186.1 then ((laws_toAround.f a0_0 a0_1 a0_2 a0_3).bind fun bt1189 => ((laws_toLeaper.f a1_0 a1_1).bind fun bt1193 => ((impl_CountByAround.f kj9 bt1189.1 bt1189.2.1 bt1189.2.2.1 bt1189.2.2.2 bt1193.1 bt1193.2 a2).bind fun bt1195 => ((laws_eqIntS.f kj9 bt1195.1 t1171).bind fun t1199 => (if t1199 = true then (laws_FnExactCountByAround.j1 kj9 bt1186.2 bt1186.1 (bt1195.2 != t1174)) else (laws_FnExactCountByAround.j1 kj9 bt1186.2 bt1186.1 true)))))) else (some false))))) = some r := by rw [if_neg (show ¬ (false = true) by decide)] at H; exact H
    clear H
    have H := H1
    clear H1
    replace H := Option.bind_eq_some_iff.mp H
    obtain ⟨⟨t1186, t1187⟩, A280, H⟩ := H
    replace H : ((laws_heldIntS.f kj9 t1187 1).bind fun t1188 => (if t1188 < 0 then (some false) else (if t1188 = t1186 then ((laws_toAround.f a0_0 a0_1 a0_2 a0_3).bind fun bt1189 => ((laws_toLeaper.f a1_0 a1_1).bind fun bt1193 => ((impl_CountByAround.f kj9 bt1189.1 bt1189.2.1 bt1189.2.2.1 bt1189.2.2.2 bt1193.1 bt1193.2 a2).bind fun bt1195 => ((laws_eqIntS.f kj9 bt1195.1 t1171).bind fun t1199 => (if t1199 = true then (laws_FnExactCountByAround.j1 kj9 t1187 t1186 (bt1195.2 != t1174)) else (laws_FnExactCountByAround.j1 kj9 t1187 t1186 true)))))) else (some false)))) = some r := H
    have A28 := Aside0.mk A280
    clear A280
    replace H := Option.bind_eq_some_iff.mp H
    obtain ⟨t1188, A290, H⟩ := H
    replace H : (if t1188 < 0 then (some false) else (if t1188 = t1186 then ((laws_toAround.f a0_0 a0_1 a0_2 a0_3).bind fun bt1189 => ((laws_toLeaper.f a1_0 a1_1).bind fun bt1193 => ((impl_CountByAround.f kj9 bt1189.1 bt1189.2.1 bt1189.2.2.1 bt1189.2.2.2 bt1193.1 bt1193.2 a2).bind fun bt1195 => ((laws_eqIntS.f kj9 bt1195.1 t1171).bind fun t1199 => (if t1199 = true then (laws_FnExactCountByAround.j1 kj9 t1187 t1186 (bt1195.2 != t1174)) else (laws_FnExactCountByAround.j1 kj9 t1187 t1186 true)))))) else (some false))) = some r := H
    have A29 := Aside0.mk A290
    clear A290
    by_cases c30 : t1188 < 0
    ·rw [if_pos c30] at H
     have c30b0 : decide (t1188 < 0) = true := decide_eq_true c30
     clear c30
     obtain rfl := Option.some.inj H
     obtain ⟨Ao31, co31, eo31⟩ := Kd.R_slice HO_9.out
     subst eo31
     go_wp2_with (first | ((with_reducible refine gate_callee (f := 23) rfl ?_); refine goesL_ (some 44) rfl rfl Try.func23 (by kernel_rfl) rfl #[.slice Ao31 t1181.length co31, .int .i64 1] rfl (by (try simp only [List.map_toArray, List.map_cons, List.map_nil]); first | done | rfl | (simp only [List.length_drop, List.length_take]; rfl)) ?_; (with_reducible refine (laws_markIntS.calls kj9 (fun k_ => some k_ = (.slice Ao31 t1181.length co31 : Value).ownBlock) (.slice Ao31 t1181.length co31) t1181 1 t1186 t1187 w _ ?side1 ?side2 A28.out).mono ?_); (case side1 => repeat (first | (with_reducible first | exact HB.out | apply below_alloc | apply pw_below_drewN | apply below_drew1 | refine below_set ?_ GE1163.out | refine below_set ?_ GE1164.out) | exact HB.out)); (case side2 => exact Kd.R_tight rfl HO_9.out); rintro e w32 ⟨rfl, hy0, hb, hkp⟩; refine ⟨_, rfl, ?_⟩; have n0_ := Aside0.mk (Kd.R_mono (ok' := fun k_ => some k_ ≠ (.slice Ao31 t1181.length co31 : Value).ownBlock) (Kd.R_keptB (HO_7.out) hkp (fun k_ hk_ hs_ => (hk_) hs_)) (fun k_ hk_ => hk_.1)); have n1_ := Aside0.mk (Kd.R_reok rfl hy0 (fun k_ e_ => HO_9.out.1 k_ e_)); have n2_ := Aside0.mk (blk_kept (by (with_reducible repeat (first | refine blk_drewN ?_ _ | refine blk_drew ?_ | refine blk_alloc ?_ _)); exact BK1163.out) hkp (fun hs_ => (fun e_ => (Kd.R_ne HO_9.out BK1163.out (by decide)) e_) hs_)); have n3_ := Aside0.mk (blk_kept (by (with_reducible repeat (first | refine blk_drewN ?_ _ | refine blk_drew ?_ | refine blk_alloc ?_ _)); exact BK1164.out) hkp (fun hs_ => (fun e_ => (Kd.R_ne HO_9.out BK1164.out (by decide)) e_) hs_)); have n4_ := Aside0.mk (hb); clear HO_7; clear HO_9; clear BK1163; clear BK1164; clear HB; have HO_7 := n0_; have HO_9 := n1_; have BK1163 := n2_; have BK1164 := n3_; have HB := n4_; clear n0_ n1_ n2_ n3_ n4_; (try clear hb); (try clear hkp); (try clear hy0)) | ((with_reducible refine gate_callee (f := 24) rfl ?_); refine goesL_ (some 47) rfl rfl Try.func24 (by kernel_rfl) rfl #[.slice Ao31 t1187.length co31, .int .i64 1] rfl (by (try simp only [List.map_toArray, List.map_cons, List.map_nil]); first | done | (rw [show t1187.length = t1181.length from (Kd.R_reads' HO_9.out).1.symm] <;> rfl) | rfl | (simp only [List.length_drop, List.length_take]; rfl)) ?_; (with_reducible refine (laws_heldIntS.calls kj9 _ _ t1187 1 t1188 _ ?side1 ?side2 A29.out).mono ?_); (case side1 => repeat (first | exact (Kd.R_reads' HO_9.out).2.2 | (with_reducible refine Kd.C_alloc ?_ _) | (with_reducible refine Kd.C_drewN ?_ _) | (with_reducible refine Kd.C_drew ?_))); (case side2 => rw [show t1187.length = t1181.length from (Kd.R_reads' HO_9.out).1.symm]; exact (Kd.R_reads' HO_9.out).2.1); rintro e w' ⟨rfl, ⟨nd, rfl⟩⟩; refine ⟨_, rfl, ?_⟩))
     go_ret
     exact ⟨by first | rfl | (simp [errW_none, errW_some] <;> rfl) | (simp [*, errW_none, errW_some] <;> rfl), by repeat (first | (with_reducible first | exact HB.out | apply below_alloc | apply pw_below_drewN | apply below_drew1 | refine below_set ?_ GE1163.out | refine below_set ?_ GE1164.out) | exact HB.out)⟩
    ·rw [if_neg c30] at H
     have c30b0 : decide (t1188 < 0) = false := decide_eq_false c30
     clear c30
     by_cases c33 : t1188 = t1186
     ·rw [if_pos c33] at H
      have c33b0 : (t1188 == t1186) = true := beq_iff_eq.mpr c33
      have c33b1 : (t1188 != t1186) = false := bne_eq_false_iff_eq.mpr c33
      clear c33
      replace H := Option.bind_eq_some_iff.mp H
      obtain ⟨⟨t1189, t1190, t1191, t1192⟩, A340, H⟩ := H
      replace H : ((laws_toLeaper.f a1_0 a1_1).bind fun bt1193 => ((impl_CountByAround.f kj9 t1189 t1190 t1191 t1192 bt1193.1 bt1193.2 a2).bind fun bt1195 => ((laws_eqIntS.f kj9 bt1195.1 t1171).bind fun t1199 => (if t1199 = true then (laws_FnExactCountByAround.j1 kj9 t1187 t1186 (bt1195.2 != t1174)) else (laws_FnExactCountByAround.j1 kj9 t1187 t1186 true))))) = some r := H
      have A34 := Aside0.mk A340
      clear A340
      replace H := Option.bind_eq_some_iff.mp H
      obtain ⟨⟨t1193, t1194⟩, A350, H⟩ := H
      replace H : ((impl_CountByAround.f kj9 t1189 t1190 t1191 t1192 t1193 t1194 a2).bind fun bt1195 => ((laws_eqIntS.f kj9 bt1195.1 t1171).bind fun t1199 => (if t1199 = true then (laws_FnExactCountByAround.j1 kj9 t1187 t1186 (bt1195.2 != t1174)) else (laws_FnExactCountByAround.j1 kj9 t1187 t1186 true)))) = some r := H
      have A35 := Aside0.mk A350
      clear A350
      replace H := Option.bind_eq_some_iff.mp H
      obtain ⟨⟨t1195, t1198⟩, A360, H⟩ := H
      replace H : ((laws_eqIntS.f kj9 t1195 t1171).bind fun t1199 => (if t1199 = true then (laws_FnExactCountByAround.j1 kj9 t1187 t1186 (t1198 != t1174)) else (laws_FnExactCountByAround.j1 kj9 t1187 t1186 true))) = some r := H
      have A36 := Aside0.mk A360
      clear A360
      have HC37 := Aside0.mk H
      clear H
      obtain ⟨Ao38, co38, eo38⟩ := Kd.R_slice HO_9.out
      subst eo38
      try go_wp2_with (first | ((with_reducible refine gate_callee (f := 23) rfl ?_); refine goesL_ (some 44) rfl rfl Try.func23 (by kernel_rfl) rfl #[.slice Ao38 t1181.length co38, .int .i64 1] rfl (by (try simp only [List.map_toArray, List.map_cons, List.map_nil]); first | done | rfl | (simp only [List.length_drop, List.length_take]; rfl)) ?_; (with_reducible refine (laws_markIntS.calls kj9 (fun k_ => some k_ = (.slice Ao38 t1181.length co38 : Value).ownBlock) (.slice Ao38 t1181.length co38) t1181 1 t1186 t1187 w _ ?side1 ?side2 A28.out).mono ?_); (case side1 => repeat (first | (with_reducible first | exact HB.out | apply below_alloc | apply pw_below_drewN | apply below_drew1 | refine below_set ?_ GE1163.out | refine below_set ?_ GE1164.out) | exact HB.out)); (case side2 => exact Kd.R_tight rfl HO_9.out); rintro e w39 ⟨rfl, hy0, hb, hkp⟩; refine ⟨_, rfl, ?_⟩; have n0_ := Aside0.mk (Kd.R_mono (ok' := fun k_ => some k_ ≠ (.slice Ao38 t1181.length co38 : Value).ownBlock) (Kd.R_keptB (HO_7.out) hkp (fun k_ hk_ hs_ => (hk_) hs_)) (fun k_ hk_ => hk_.1)); have n1_ := Aside0.mk (Kd.R_reok rfl hy0 (fun k_ e_ => HO_9.out.1 k_ e_)); have n2_ := Aside0.mk (blk_kept (by (with_reducible repeat (first | refine blk_drewN ?_ _ | refine blk_drew ?_ | refine blk_alloc ?_ _)); exact BK1163.out) hkp (fun hs_ => (fun e_ => (Kd.R_ne HO_9.out BK1163.out (by decide)) e_) hs_)); have n3_ := Aside0.mk (blk_kept (by (with_reducible repeat (first | refine blk_drewN ?_ _ | refine blk_drew ?_ | refine blk_alloc ?_ _)); exact BK1164.out) hkp (fun hs_ => (fun e_ => (Kd.R_ne HO_9.out BK1164.out (by decide)) e_) hs_)); have n4_ := Aside0.mk (hb); clear HO_7; clear HO_9; clear BK1163; clear BK1164; clear HB; have HO_7 := n0_; have HO_9 := n1_; have BK1163 := n2_; have BK1164 := n3_; have HB := n4_; clear n0_ n1_ n2_ n3_ n4_; (try clear hb); (try clear hkp); (try clear hy0)) | ((with_reducible refine gate_callee (f := 24) rfl ?_); refine goesL_ (some 47) rfl rfl Try.func24 (by kernel_rfl) rfl #[.slice Ao38 t1187.length co38, .int .i64 1] rfl (by (try simp only [List.map_toArray, List.map_cons, List.map_nil]); first | done | (rw [show t1187.length = t1181.length from (Kd.R_reads' HO_9.out).1.symm] <;> rfl) | rfl | (simp only [List.length_drop, List.length_take]; rfl)) ?_; (with_reducible refine (laws_heldIntS.calls kj9 _ _ t1187 1 t1188 _ ?side1 ?side2 A29.out).mono ?_); (case side1 => repeat (first | exact (Kd.R_reads' HO_9.out).2.2 | (with_reducible refine Kd.C_alloc ?_ _) | (with_reducible refine Kd.C_drewN ?_ _) | (with_reducible refine Kd.C_drew ?_))); (case side2 => rw [show t1187.length = t1181.length from (Kd.R_reads' HO_9.out).1.symm]; exact (Kd.R_reads' HO_9.out).2.1); rintro e w' ⟨rfl, ⟨nd, rfl⟩⟩; refine ⟨_, rfl, ?_⟩))
      (try (rw [drewN_self w39]; generalize hq_ : World.drewN w39 _ = w39; have n0_ : Aside0 (Kd.R (Kd.int .i64) 3 w39 w.heap.size (fun k_ => some k_ ≠ (.slice Ao38 t1181.length co38 : Value).ownBlock) v1172 t1171) := ⟨by rw [← hq_]; exact (by (with_reducible repeat (first | apply Kd.R_alloc | apply Kd.R_drewN | apply Kd.R_drew)); exact HO_7.out)⟩; have n1_ : Aside0 (Kd.R (Kd.int .i64) 3 w39 w.heap.size (fun k_ => some k_ ≠ (v1172 : Value).ownBlock) (.slice Ao38 t1181.length co38) t1187) := ⟨by rw [← hq_]; exact (by (with_reducible repeat (first | apply Kd.R_alloc | apply Kd.R_drewN | apply Kd.R_drew)); exact HO_9.out)⟩; have n2_ : Aside0 (w39.heap[gb1163]? = some (.cells #[.int .i64 a0_0, .int .i64 a0_1, .bool a0_2, .bool a0_3] 49 (0, 0))) := ⟨by rw [← hq_]; exact (by (with_reducible repeat (first | refine blk_drewN ?_ _ | refine blk_drew ?_ | refine blk_alloc ?_ _)); exact BK1163.out)⟩; have n3_ : Aside0 (w39.heap[gb1164]? = some (.cells #[.int .i64 a1_0, .int .i64 a1_1] 26 (0, 0))) := ⟨by rw [← hq_]; exact (by (with_reducible repeat (first | refine blk_drewN ?_ _ | refine blk_drew ?_ | refine blk_alloc ?_ _)); exact BK1164.out)⟩; have n4_ : Aside0 (Below w.heap.size w w39) := ⟨by rw [← hq_]; exact (by repeat (first | (with_reducible first | exact HB.out | apply below_alloc | apply pw_below_drewN | apply below_drew1 | refine below_set ?_ GE1163.out | refine below_set ?_ GE1164.out) | exact HB.out))⟩; clear HO_7 HO_9 BK1163 BK1164 HB hq_; have HO_7 := n0_; have HO_9 := n1_; have BK1163 := n2_; have BK1164 := n3_; have HB := n4_; clear n0_ n1_ n2_ n3_ n4_))
      have n0_ := Aside0.mk (Kd.R_drew HO_7.out)
      have n1_ := Aside0.mk (Kd.R_drew HO_9.out)
      have n2_ := Aside0.mk (blk_drew BK1163.out)
      have n3_ := Aside0.mk (blk_drew BK1164.out)
      have n4_ := Aside0.mk (below_drew1 HB.out)
      clear HO_7
      clear HO_9
      clear BK1163
      clear BK1164
      clear HB
      have HO_7 := n0_
      have HO_9 := n1_
      have BK1163 := n2_
      have BK1164 := n3_
      have HB := n4_
      clear n0_ n1_ n2_ n3_ n4_
      refine start_ (n := 11) (S := fun w' => w'.cell? ⟨gb1163, 0, none⟩ = some (.int .i64 a0_0) ∧ w'.cell? ⟨gb1163, 1, none⟩ = some (.int .i64 a0_1) ∧ w'.cell? ⟨gb1163, 2, none⟩ = some (.bool a0_2) ∧ w'.cell? ⟨gb1163, 3, none⟩ = some (.bool a0_3) ∧ w'.cell? ⟨gb1164, 0, none⟩ = some (.int .i64 a1_0) ∧ w'.cell? ⟨gb1164, 1, none⟩ = some (.int .i64 a1_1)) (ds := []) #[false, false, false, false, false, false, false, false, false, false, false] (by kernel_rfl) rfl rfl ⟨(blk_cell BK1163.out 0).trans rfl, (blk_cell BK1163.out 1).trans rfl, (blk_cell BK1163.out 2).trans rfl, (blk_cell BK1163.out 3).trans rfl, (blk_cell BK1164.out 0).trans rfl, (blk_cell BK1164.out 1).trans rfl⟩ (fun hHeld => ?_); refine with_tabW laws_FnExactCountByAround.tab13 laws_FnExactCountByAround.bits13 (fun HT_ HW_ => ?_)
      generalize w39.drew = w40 at HO_7 HO_9 BK1163 BK1164 HB hHeld ⊢
      refine pure_ (i := 4) (N := some 58) (v := ?_) (a' := ?_) #[false, false, false, false, true, false, false, false, false, false, false] rfl rfl (any_of HT_.out (by kernel_rfl)) (fun _ _ _ h => h) (Or.inl ⟨by rfl, ?_⟩) ?_ ?_
      rotate_left
      ·intro w'
       go_simp
       with_reducible rfl
      rotate_left
      ·simp only [Act.put, List.setIfInBounds_toArray, List.set_cons_zero, List.set_cons_succ, i64_w, i32_w]
       rfl
      refine take_ (i := 0) (N := some 54) (v := ?_) (a' := ?_) #[true, false, false, false, true, false, false, false, false, false, false] rfl rfl (take_ofW HT_.out HW_.out (by kernel_rfl)) (fun _ _ _ h => h) (Or.inl ⟨by rfl, ?_⟩) hHeld ?_ ?_
      rotate_left
      ·rintro w' ⟨s0, s1, s2, s3, s4, s5⟩
       go_simp
       with_reducible rfl
      rotate_left
      ·simp only [Act.put, List.setIfInBounds_toArray, List.set_cons_zero, List.set_cons_succ, i64_w, i32_w]
       rfl
      refine take_ (i := 2) (N := some 56) (v := ?_) (a' := ?_) #[true, false, true, false, true, false, false, false, false, false, false] rfl rfl (take_ofW HT_.out HW_.out (by kernel_rfl)) (fun _ _ _ h => h) (Or.inl ⟨by rfl, ?_⟩) hHeld ?_ ?_
      rotate_left
      ·rintro w' ⟨s0, s1, s2, s3, s4, s5⟩
       go_simp
       with_reducible rfl
      rotate_left
      ·simp only [Act.put, List.setIfInBounds_toArray, List.set_cons_zero, List.set_cons_succ, i64_w, i32_w]
       rfl
      refine one_ (i := 1) (N := some 55) #[true, true, true, false, true, false, false, false, false, false, false] rfl rfl (one_of HT_.out (by kernel_rfl)) (by decide) (fun K hK => ?_)
      refine goes_ Try.func41 (by kernel_rfl) rfl #[.agg #[.int .i64 a0_0, .int .i64 a0_1, .bool a0_2, .bool a0_3]] (by rfl) rfl rfl (by (try simp only [List.map_toArray, List.map_cons, List.map_nil]); first | done | rfl | (simp only [List.length_drop, List.length_take]; rfl)) ?_
      with_reducible refine (laws_toAround.calls a0_0 a0_1 a0_2 a0_3 t1189 t1190 t1191 t1192 _ A34.out).mono ?_
      rintro e w41 ⟨rfl, hb⟩
      refine ⟨_, rfl, ?_⟩
      have n0_ := Aside0.mk (Kd.R_below (by (with_reducible repeat (first | apply Kd.R_alloc | apply Kd.R_drewN | apply Kd.R_drew)); exact HO_7.out) hb)
      have n1_ := Aside0.mk (Kd.R_below (by (with_reducible repeat (first | apply Kd.R_alloc | apply Kd.R_drewN | apply Kd.R_drew)); exact HO_9.out) hb)
      have n2_ := Aside0.mk (blk_below (g := gb1163) (o := .cells #[.int .i64 a0_0, .int .i64 a0_1, .bool a0_2, .bool a0_3] 49 (0, 0)) (by (with_reducible repeat (first | refine blk_drewN ?_ _ | refine blk_drew ?_ | refine blk_alloc ?_ _)); exact BK1163.out) hb)
      have n3_ := Aside0.mk (blk_below (g := gb1164) (o := .cells #[.int .i64 a1_0, .int .i64 a1_1] 26 (0, 0)) (by (with_reducible repeat (first | refine blk_drewN ?_ _ | refine blk_drew ?_ | refine blk_alloc ?_ _)); exact BK1164.out) hb)
      have n4_ := Aside0.mk (below_step (by repeat (first | (with_reducible first | exact HB.out | apply below_alloc | apply pw_below_drewN | apply below_drew1 | refine below_set ?_ GE1163.out | refine below_set ?_ GE1164.out) | exact HB.out)) hb)
      clear HO_7
      clear HO_9
      clear BK1163
      clear BK1164
      clear HB
      have HO_7 := n0_
      have HO_9 := n1_
      have BK1163 := n2_
      have BK1164 := n3_
      have HB := n4_
      clear n0_ n1_ n2_ n3_ n4_
      (try clear hb)
      (try clear hb2)
      (try clear hk)
      (try clear hi)
      (try clear hna_)
      (try clear hnb_)
      refine hK.out _ _ ⟨(blk_cell BK1163.out 0).trans rfl, (blk_cell BK1163.out 1).trans rfl, (blk_cell BK1163.out 2).trans rfl, (blk_cell BK1163.out 3).trans rfl, (blk_cell BK1164.out 0).trans rfl, (blk_cell BK1164.out 1).trans rfl⟩ (fun hHeld => ?_)
      clear hK K
      refine norm_ (a' := ?_) ?_ ?_
      rotate_left
      ·show Act.put _ (some 55) _ = _
       simp only [Act.put, List.setIfInBounds_toArray, List.set_cons_zero, List.set_cons_succ, i64_w, i32_w]
       rfl
      refine one_ (i := 3) (N := some 57) #[true, true, true, true, true, false, false, false, false, false, false] rfl rfl (one_of HT_.out (by kernel_rfl)) (by decide) (fun K hK => ?_)
      refine goes_ Try.func18 (by kernel_rfl) rfl #[.agg #[.int .i64 a1_0, .int .i64 a1_1]] (by rfl) rfl rfl (by (try simp only [List.map_toArray, List.map_cons, List.map_nil]); first | done | rfl | (simp only [List.length_drop, List.length_take]; rfl)) ?_
      with_reducible refine (laws_toLeaper.calls a1_0 a1_1 t1193 t1194 _ A35.out).mono ?_
      rintro e w42 ⟨rfl, hb⟩
      refine ⟨_, rfl, ?_⟩
      have n0_ := Aside0.mk (Kd.R_below (by (with_reducible repeat (first | apply Kd.R_alloc | apply Kd.R_drewN | apply Kd.R_drew)); exact HO_7.out) hb)
      have n1_ := Aside0.mk (Kd.R_below (by (with_reducible repeat (first | apply Kd.R_alloc | apply Kd.R_drewN | apply Kd.R_drew)); exact HO_9.out) hb)
      have n2_ := Aside0.mk (blk_below (g := gb1163) (o := .cells #[.int .i64 a0_0, .int .i64 a0_1, .bool a0_2, .bool a0_3] 49 (0, 0)) (by (with_reducible repeat (first | refine blk_drewN ?_ _ | refine blk_drew ?_ | refine blk_alloc ?_ _)); exact BK1163.out) hb)
      have n3_ := Aside0.mk (blk_below (g := gb1164) (o := .cells #[.int .i64 a1_0, .int .i64 a1_1] 26 (0, 0)) (by (with_reducible repeat (first | refine blk_drewN ?_ _ | refine blk_drew ?_ | refine blk_alloc ?_ _)); exact BK1164.out) hb)
      have n4_ := Aside0.mk (below_step (by repeat (first | (with_reducible first | exact HB.out | apply below_alloc | apply pw_below_drewN | apply below_drew1 | refine below_set ?_ GE1163.out | refine below_set ?_ GE1164.out) | exact HB.out)) hb)
      clear HO_7
      clear HO_9
      clear BK1163
      clear BK1164
      clear HB
      have HO_7 := n0_
      have HO_9 := n1_
      have BK1163 := n2_
      have BK1164 := n3_
      have HB := n4_
      clear n0_ n1_ n2_ n3_ n4_
      (try clear hb)
      (try clear hb2)
      (try clear hk)
      (try clear hi)
      (try clear hna_)
      (try clear hnb_)
      refine hK.out _ _ ⟨(blk_cell BK1163.out 0).trans rfl, (blk_cell BK1163.out 1).trans rfl, (blk_cell BK1163.out 2).trans rfl, (blk_cell BK1163.out 3).trans rfl, (blk_cell BK1164.out 0).trans rfl, (blk_cell BK1164.out 1).trans rfl⟩ (fun hHeld => ?_)
      clear hK K
      refine norm_ (a' := ?_) ?_ ?_
      rotate_left
      ·show Act.put _ (some 57) _ = _
       simp only [Act.put, List.setIfInBounds_toArray, List.set_cons_zero, List.set_cons_succ, i64_w, i32_w]
       rfl
      refine one_ (i := 5) (N := some 59) #[true, true, true, true, true, true, false, false, false, false, false] rfl rfl (one_of HT_.out (by kernel_rfl)) (by decide) (fun K hK => ?_)
      refine goes_ Try.func42 (by kernel_rfl) rfl #[.agg #[.int .i64 t1189, .int .i64 t1190, .bool t1191, .bool t1192], .agg #[.int .i64 t1193, .int .i64 t1194], .int .i64 a2] (by rfl) rfl rfl (by (try simp only [List.map_toArray, List.map_cons, List.map_nil]); first | done | rfl | (simp only [List.length_drop, List.length_take]; rfl)) ?_
      with_reducible refine (impl_CountByAround.calls kj9 t1189 t1190 t1191 t1192 t1193 t1194 a2 t1195 t1198 _ A36.out).mono ?_
      rintro e w43 ⟨v1196, rfl, ho0, hb⟩
      refine ⟨_, rfl, ?_⟩
      have n0_ := Aside0.mk (Kd.R_elder' (by (with_reducible repeat (first | apply Kd.R_alloc | apply Kd.R_drewN | apply Kd.R_drew)); exact HO_7.out) (Kd.R_base ho0) hb)
      have n1_ := Aside0.mk (Kd.R_elder' (by (with_reducible repeat (first | apply Kd.R_alloc | apply Kd.R_drewN | apply Kd.R_drew)); exact HO_9.out) (Kd.R_base ho0) hb)
      have n2_ := Aside0.mk (Kd.R_lower (Kd.R_new' (Kd.R_new' ho0 (Kd.R_lt (by (with_reducible repeat (first | apply Kd.R_alloc | apply Kd.R_drewN | apply Kd.R_drew)); exact HO_7.out))) (Kd.R_lt (by (with_reducible repeat (first | apply Kd.R_alloc | apply Kd.R_drewN | apply Kd.R_drew)); exact HO_9.out))) (below_size (by repeat (first | (with_reducible first | exact HB.out | apply below_alloc | apply pw_below_drewN | apply below_drew1 | refine below_set ?_ GE1163.out | refine below_set ?_ GE1164.out) | exact HB.out))))
      have n3_ := Aside0.mk (blk_below (g := gb1163) (o := .cells #[.int .i64 a0_0, .int .i64 a0_1, .bool a0_2, .bool a0_3] 49 (0, 0)) (by (with_reducible repeat (first | refine blk_drewN ?_ _ | refine blk_drew ?_ | refine blk_alloc ?_ _)); exact BK1163.out) hb)
      have n4_ := Aside0.mk (blk_below (g := gb1164) (o := .cells #[.int .i64 a1_0, .int .i64 a1_1] 26 (0, 0)) (by (with_reducible repeat (first | refine blk_drewN ?_ _ | refine blk_drew ?_ | refine blk_alloc ?_ _)); exact BK1164.out) hb)
      have n5_ := Aside0.mk (below_step (by repeat (first | (with_reducible first | exact HB.out | apply below_alloc | apply pw_below_drewN | apply below_drew1 | refine below_set ?_ GE1163.out | refine below_set ?_ GE1164.out) | exact HB.out)) hb)
      clear HO_7
      clear HO_9
      clear BK1163
      clear BK1164
      clear HB
      have HO_7 := n0_
      have HO_9 := n1_
      have HO1197 := n2_
      have BK1163 := n3_
      have BK1164 := n4_
      have HB := n5_
      clear n0_ n1_ n2_ n3_ n4_ n5_
      (try clear hb)
      (try clear hb2)
      (try clear hk)
      (try clear hi)
      (try clear ho0)
      (try clear hna_)
      (try clear hnb_)
      refine hK.out _ _ ⟨(blk_cell BK1163.out 0).trans rfl, (blk_cell BK1163.out 1).trans rfl, (blk_cell BK1163.out 2).trans rfl, (blk_cell BK1163.out 3).trans rfl, (blk_cell BK1164.out 0).trans rfl, (blk_cell BK1164.out 1).trans rfl⟩ (fun hHeld => ?_)
      clear hK K
      refine norm_ (a' := ?_) ?_ ?_
      rotate_left
      ·show Act.put _ (some 59) _ = _
       simp only [Act.put, List.setIfInBounds_toArray, List.set_cons_zero, List.set_cons_succ, i64_w, i32_w]
       rfl
      refine pure_ (i := 6) (N := some 53) (v := ?_) (a' := ?_) #[true, true, true, true, true, true, true, false, false, false, false] rfl rfl (any_of HT_.out (by kernel_rfl)) (fun _ _ _ h => h) (Or.inl ⟨by rfl, ?_⟩) ?_ ?_
      rotate_left
      ·intro w'
       go_simp
       with_reducible rfl
      rotate_left
      ·simp only [Act.put, List.setIfInBounds_toArray, List.set_cons_zero, List.set_cons_succ, i64_w, i32_w]
       rfl
      refine pure_ (i := 7) (N := some 60) (v := ?_) (a' := ?_) #[true, true, true, true, true, true, true, true, false, false, false] rfl rfl (any_of HT_.out (by kernel_rfl)) (fun _ _ _ h => h) (Or.inl ⟨by rfl, ?_⟩) ?_ ?_
      rotate_left
      ·intro w'
       go_simp
       with_reducible rfl
      rotate_left
      ·simp only [Act.put, List.setIfInBounds_toArray, List.set_cons_zero, List.set_cons_succ, i64_w, i32_w]
       rfl
      refine pure_ (i := 8) (N := some 61) (v := ?_) (a' := ?_) #[true, true, true, true, true, true, true, true, true, false, false] rfl rfl (any_of HT_.out (by kernel_rfl)) (fun _ _ _ h => h) (Or.inl ⟨by rfl, ?_⟩) ?_ ?_
      rotate_left
      ·intro w'
       go_simp
       with_reducible rfl
      rotate_left
      ·simp only [Act.put, List.setIfInBounds_toArray, List.set_cons_zero, List.set_cons_succ, i64_w, i32_w]
       rfl
      refine pure_ (i := 9) (N := some 13) (v := ?_) (a' := ?_) #[true, true, true, true, true, true, true, true, true, true, false] rfl rfl (any_of HT_.out (by kernel_rfl)) (fun _ _ _ h => h) (Or.inl ⟨by rfl, ?_⟩) ?_ ?_
      rotate_left
      ·intro w'
       go_simp
       with_reducible rfl
      rotate_left
      ·simp only [Act.put, List.setIfInBounds_toArray, List.set_cons_zero, List.set_cons_succ, i64_w, i32_w]
       rfl
      refine pure_ (i := 10) (N := some 14) (v := ?_) (a' := ?_) #[true, true, true, true, true, true, true, true, true, true, true] rfl rfl (any_of HT_.out (by kernel_rfl)) (fun _ _ _ h => h) (Or.inl ⟨by rfl, ?_⟩) ?_ ?_
      rotate_left
      ·intro w'
       go_simp
       with_reducible rfl
      rotate_left
      ·simp only [Act.put, List.setIfInBounds_toArray, List.set_cons_zero, List.set_cons_succ, i64_w, i32_w]
       rfl
      refine done_ (done_of HT_.out (by kernel_rfl)) ?_
      go_upto_region 14 with (fail)
      go_cut [70] (fun v70 wc => ∃ (kq : Nat) (x70_36 : Bool), v70 = .bool x70_36 ∧ Aside0 (laws_FnExactCountByAround.j1 kq t1187 t1186 x70_36 = some r) ∧ Aside0 (kq ≤ kj9) ∧ Aside0 (Kd.R (Kd.int .i64) 3 wc w.heap.size (fun _ => True) (.slice Ao38 t1181.length co38) t1187) ∧ Aside0 (wc.heap[gb1163]? = some (.cells #[.int .i64 a0_0, .int .i64 a0_1, .bool a0_2, .bool a0_3] 49 (0, 0))) ∧ Aside0 (wc.heap[gb1164]? = some (.cells #[.int .i64 a1_0, .int .i64 a1_1] 26 (0, 0))) ∧ Aside0 (Below w.heap.size w wc))
      case first =>
       have H := HC37.out
       clear HC37
       replace H := Option.bind_eq_some_iff.mp H
       obtain ⟨t1199, A440, H⟩ := H
       replace H : (if t1199 = true then (laws_FnExactCountByAround.j1 kj9 t1187 t1186 (t1198 != t1174)) else (laws_FnExactCountByAround.j1 kj9 t1187 t1186 true)) = some r := H
       have A44 := Aside0.mk A440
       clear A440
       by_cases c45 : t1199 = true
       ·subst c45
        have H1 : (laws_FnExactCountByAround.j1 kj9 t1187 t1186 (t1198 != t1174)) = some r := by rw [if_pos rfl] at H; exact H
        clear H
        have H := H1
        clear H1
        have H' := Aside0.mk H
        clear H
        obtain ⟨Ao46, co46, eo46⟩ := Kd.R_slice HO1197.out
        subst eo46
        obtain ⟨Ao47, co47, eo47⟩ := Kd.R_slice HO_7.out
        subst eo47
        go_wp2_with (first | ((with_reducible refine gate_callee (f := 20) rfl ?_); refine goesL_ (some 64) rfl rfl Try.func20 (by kernel_rfl) rfl #[.slice Ao46 t1195.length co46, .slice Ao47 t1171.length co47] rfl (by (try simp only [List.map_toArray, List.map_cons, List.map_nil]); first | done | rfl | (simp only [List.length_drop, List.length_take]; rfl)) ?_; (with_reducible refine (laws_eqIntS.calls kj9 _ _ t1195 _ _ t1171 true _ ?side1 ?side2 ?side3 ?side4 A44.out).mono ?_); (case side1 => repeat (first | exact (Kd.R_reads' HO1197.out).2.2 | (with_reducible refine Kd.C_alloc ?_ _) | (with_reducible refine Kd.C_drewN ?_ _) | (with_reducible refine Kd.C_drew ?_))); (case side2 => exact (Kd.R_reads' HO1197.out).2.1); (case side3 => repeat (first | exact (Kd.R_reads' HO_7.out).2.2 | (with_reducible refine Kd.C_alloc ?_ _) | (with_reducible refine Kd.C_drewN ?_ _) | (with_reducible refine Kd.C_drew ?_))); (case side4 => exact (Kd.R_reads' HO_7.out).2.1); rintro e w' ⟨rfl, ⟨nd, rfl⟩⟩; refine ⟨_, rfl, ?_⟩))
        go_meet
        case rel => exact ⟨_, ((t1198 != t1174)), (by first | rfl | (simp; done) | (simp [*]; done)), H', ⟨by have := HJ9.out; first | omega | exact Nat.le_refl _⟩, ⟨by (with_reducible repeat (first | apply Kd.R_alloc | apply Kd.R_drewN | apply Kd.R_drew)); exact Kd.R_mono HO_9.out (fun _ hk => trivial)⟩, ⟨by (with_reducible repeat (first | refine blk_drewN ?_ _ | refine blk_drew ?_ | refine blk_alloc ?_ _)); exact BK1163.out⟩, ⟨by (with_reducible repeat (first | refine blk_drewN ?_ _ | refine blk_drew ?_ | refine blk_alloc ?_ _)); exact BK1164.out⟩, ⟨by repeat (first | (with_reducible first | exact HB.out | apply below_alloc | apply pw_below_drewN | apply below_drew1 | refine below_set ?_ GE1163.out | refine below_set ?_ GE1164.out) | exact HB.out)⟩⟩
       ·replace c45 := Bool.eq_false_iff.mpr c45
        subst c45
        have H1 : (laws_FnExactCountByAround.j1 kj9 t1187 t1186 true) = some r := by rw [if_neg (show ¬ (false = true) by decide)] at H; exact H
        clear H
        have H := H1
        clear H1
        have H' := Aside0.mk H
        clear H
        obtain ⟨Ao48, co48, eo48⟩ := Kd.R_slice HO1197.out
        subst eo48
        obtain ⟨Ao49, co49, eo49⟩ := Kd.R_slice HO_7.out
        subst eo49
        go_wp2_with (first | ((with_reducible refine gate_callee (f := 20) rfl ?_); refine goesL_ (some 64) rfl rfl Try.func20 (by kernel_rfl) rfl #[.slice Ao48 t1195.length co48, .slice Ao49 t1171.length co49] rfl (by (try simp only [List.map_toArray, List.map_cons, List.map_nil]); first | done | rfl | (simp only [List.length_drop, List.length_take]; rfl)) ?_; (with_reducible refine (laws_eqIntS.calls kj9 _ _ t1195 _ _ t1171 false _ ?side1 ?side2 ?side3 ?side4 A44.out).mono ?_); (case side1 => repeat (first | exact (Kd.R_reads' HO1197.out).2.2 | (with_reducible refine Kd.C_alloc ?_ _) | (with_reducible refine Kd.C_drewN ?_ _) | (with_reducible refine Kd.C_drew ?_))); (case side2 => exact (Kd.R_reads' HO1197.out).2.1); (case side3 => repeat (first | exact (Kd.R_reads' HO_7.out).2.2 | (with_reducible refine Kd.C_alloc ?_ _) | (with_reducible refine Kd.C_drewN ?_ _) | (with_reducible refine Kd.C_drew ?_))); (case side4 => exact (Kd.R_reads' HO_7.out).2.1); rintro e w' ⟨rfl, ⟨nd, rfl⟩⟩; refine ⟨_, rfl, ?_⟩))
        go_meet
        case rel => exact ⟨_, (true), (by first | rfl | (simp; done) | (simp [*]; done)), H', ⟨by have := HJ9.out; first | omega | exact Nat.le_refl _⟩, ⟨by (with_reducible repeat (first | apply Kd.R_alloc | apply Kd.R_drewN | apply Kd.R_drew)); exact Kd.R_mono HO_9.out (fun _ hk => trivial)⟩, ⟨by (with_reducible repeat (first | refine blk_drewN ?_ _ | refine blk_drew ?_ | refine blk_alloc ?_ _)); exact BK1163.out⟩, ⟨by (with_reducible repeat (first | refine blk_drewN ?_ _ | refine blk_drew ?_ | refine blk_alloc ?_ _)); exact BK1164.out⟩, ⟨by repeat (first | (with_reducible first | exact HB.out | apply below_alloc | apply pw_below_drewN | apply below_drew1 | refine below_set ?_ GE1163.out | refine below_set ?_ GE1164.out) | exact HB.out)⟩⟩
      case rest =>
       clear HC37
       try clear c1; try clear c2; try clear p2; try clear c3; try clear c4; try clear c11; try clear c18; try clear c20; try clear c22; try clear c23; try clear c24; try clear c27; try clear c30; try clear c30b0; try clear c33; try clear c33b0; try clear c33b1; try clear c40; try clear c41; try clear c42; try clear c45; try clear p2
       obtain ⟨kq, x70_36, rfl, HA, HJ36, HO_9, BK1163, BK1164, HB⟩ := hcut
       have hl9_36 := (Kd.R_reads' HO_9.out).1
       rw [hl9_36] at HO_9
       (try simp only [hl9_36])
       (try simp only [hl9_36] at BK1163)
       (try simp only [hl9_36] at BK1164)
       cases kq with
       | zero => exact absurd HA.out (by simp [laws_FnExactCountByAround.j1])
       | succ kj36 =>
        have H := HA.out
        clear HA
        simp only [laws_FnExactCountByAround.j1] at H
        by_cases c50 : x70_36 = true
        ·subst c50
         have H1 : (some false) = some r := by rw [if_pos rfl] at H; exact H
         clear H
         have H := H1
         clear H1
         obtain rfl := Option.some.inj H
         go_wp2
         go_ret
         exact ⟨by first | rfl | (simp [errW_none, errW_some] <;> rfl) | (simp [*, errW_none, errW_some] <;> rfl), by repeat (first | (with_reducible first | exact HB.out | apply below_alloc | apply pw_below_drewN | apply below_drew1 | refine below_set ?_ GE1163.out | refine below_set ?_ GE1164.out) | exact HB.out)⟩
        ·replace c50 := Bool.eq_false_iff.mpr c50
         subst c50
         have H1 : ((laws_heldIntS.f kj36 t1187 1).bind fun t1200 => (if t1200 < 0 then (some false) else (if t1200 = t1186 then (some true) else (some false)))) = some r := by rw [if_neg (show ¬ (false = true) by decide)] at H; exact H
         clear H
         have H := H1
         clear H1
         replace H := Option.bind_eq_some_iff.mp H
         obtain ⟨t1200, A510, H⟩ := H
         replace H : (if t1200 < 0 then (some false) else (if t1200 = t1186 then (some true) else (some false))) = some r := H
         have A51 := Aside0.mk A510
         clear A510
         by_cases c52 : t1200 < 0
         ·rw [if_pos c52] at H
          have c52b0 : decide (t1200 < 0) = true := decide_eq_true c52
          clear c52
          obtain rfl := Option.some.inj H
          go_wp2_with (first | ((with_reducible refine gate_callee (f := 24) rfl ?_); refine goesL_ (some 73) rfl rfl Try.func24 (by kernel_rfl) rfl #[.slice Ao38 t1187.length co38, .int .i64 1] rfl (by (try simp only [List.map_toArray, List.map_cons, List.map_nil]); first | done | rfl | (simp only [List.length_drop, List.length_take]; rfl)) ?_; (with_reducible refine (laws_heldIntS.calls kj36 _ _ t1187 1 t1200 _ ?side1 ?side2 A51.out).mono ?_); (case side1 => repeat (first | exact (Kd.R_reads' HO_9.out).2.2 | (with_reducible refine Kd.C_alloc ?_ _) | (with_reducible refine Kd.C_drewN ?_ _) | (with_reducible refine Kd.C_drew ?_))); (case side2 => exact (Kd.R_reads' HO_9.out).2.1); rintro e w' ⟨rfl, ⟨nd, rfl⟩⟩; refine ⟨_, rfl, ?_⟩))
          go_ret
          exact ⟨by first | rfl | (simp [errW_none, errW_some] <;> rfl) | (simp [*, errW_none, errW_some] <;> rfl), by repeat (first | (with_reducible first | exact HB.out | apply below_alloc | apply pw_below_drewN | apply below_drew1 | refine below_set ?_ GE1163.out | refine below_set ?_ GE1164.out) | exact HB.out)⟩
         ·rw [if_neg c52] at H
          have c52b0 : decide (t1200 < 0) = false := decide_eq_false c52
          clear c52
          by_cases c53 : t1200 = t1186
          ·rw [if_pos c53] at H
           have c53b0 : (t1200 == t1186) = true := beq_iff_eq.mpr c53
           have c53b1 : (t1200 != t1186) = false := bne_eq_false_iff_eq.mpr c53
           clear c53
           obtain rfl := Option.some.inj H
           go_wp2_with (first | ((with_reducible refine gate_callee (f := 24) rfl ?_); refine goesL_ (some 73) rfl rfl Try.func24 (by kernel_rfl) rfl #[.slice Ao38 t1187.length co38, .int .i64 1] rfl (by (try simp only [List.map_toArray, List.map_cons, List.map_nil]); first | done | rfl | (simp only [List.length_drop, List.length_take]; rfl)) ?_; (with_reducible refine (laws_heldIntS.calls kj36 _ _ t1187 1 t1200 _ ?side1 ?side2 A51.out).mono ?_); (case side1 => repeat (first | exact (Kd.R_reads' HO_9.out).2.2 | (with_reducible refine Kd.C_alloc ?_ _) | (with_reducible refine Kd.C_drewN ?_ _) | (with_reducible refine Kd.C_drew ?_))); (case side2 => exact (Kd.R_reads' HO_9.out).2.1); rintro e w' ⟨rfl, ⟨nd, rfl⟩⟩; refine ⟨_, rfl, ?_⟩))
           go_ret
           exact ⟨by first | rfl | (simp [errW_none, errW_some] <;> rfl) | (simp [*, errW_none, errW_some] <;> rfl), by repeat (first | (with_reducible first | exact HB.out | apply below_alloc | apply pw_below_drewN | apply below_drew1 | refine below_set ?_ GE1163.out | refine below_set ?_ GE1164.out) | exact HB.out)⟩
          ·rw [if_neg c53] at H
           have c53b0 : (t1200 == t1186) = false := beq_eq_false_iff_ne.mpr c53
           have c53b1 : (t1200 != t1186) = true := bne_iff_ne.mpr c53
           obtain rfl := Option.some.inj H
           go_wp2_with (first | ((with_reducible refine gate_callee (f := 24) rfl ?_); refine goesL_ (some 73) rfl rfl Try.func24 (by kernel_rfl) rfl #[.slice Ao38 t1187.length co38, .int .i64 1] rfl (by (try simp only [List.map_toArray, List.map_cons, List.map_nil]); first | done | rfl | (simp only [List.length_drop, List.length_take]; rfl)) ?_; (with_reducible refine (laws_heldIntS.calls kj36 _ _ t1187 1 t1200 _ ?side1 ?side2 A51.out).mono ?_); (case side1 => repeat (first | exact (Kd.R_reads' HO_9.out).2.2 | (with_reducible refine Kd.C_alloc ?_ _) | (with_reducible refine Kd.C_drewN ?_ _) | (with_reducible refine Kd.C_drew ?_))); (case side2 => exact (Kd.R_reads' HO_9.out).2.1); rintro e w' ⟨rfl, ⟨nd, rfl⟩⟩; refine ⟨_, rfl, ?_⟩))
           go_ret
           exact ⟨by first | rfl | (simp [errW_none, errW_some] <;> rfl) | (simp [*, errW_none, errW_some] <;> rfl), by repeat (first | (with_reducible first | exact HB.out | apply below_alloc | apply pw_below_drewN | apply below_drew1 | refine below_set ?_ GE1163.out | refine below_set ?_ GE1164.out) | exact HB.out)⟩
     ·rw [if_neg c33] at H
      have c33b0 : (t1188 == t1186) = false := beq_eq_false_iff_ne.mpr c33
      have c33b1 : (t1188 != t1186) = true := bne_iff_ne.mpr c33
      obtain rfl := Option.some.inj H
      obtain ⟨Ao54, co54, eo54⟩ := Kd.R_slice HO_9.out
      subst eo54
      go_wp2_with (first | ((with_reducible refine gate_callee (f := 23) rfl ?_); refine goesL_ (some 44) rfl rfl Try.func23 (by kernel_rfl) rfl #[.slice Ao54 t1181.length co54, .int .i64 1] rfl (by (try simp only [List.map_toArray, List.map_cons, List.map_nil]); first | done | rfl | (simp only [List.length_drop, List.length_take]; rfl)) ?_; (with_reducible refine (laws_markIntS.calls kj9 (fun k_ => some k_ = (.slice Ao54 t1181.length co54 : Value).ownBlock) (.slice Ao54 t1181.length co54) t1181 1 t1186 t1187 w _ ?side1 ?side2 A28.out).mono ?_); (case side1 => repeat (first | (with_reducible first | exact HB.out | apply below_alloc | apply pw_below_drewN | apply below_drew1 | refine below_set ?_ GE1163.out | refine below_set ?_ GE1164.out) | exact HB.out)); (case side2 => exact Kd.R_tight rfl HO_9.out); rintro e w55 ⟨rfl, hy0, hb, hkp⟩; refine ⟨_, rfl, ?_⟩; have n0_ := Aside0.mk (Kd.R_mono (ok' := fun k_ => some k_ ≠ (.slice Ao54 t1181.length co54 : Value).ownBlock) (Kd.R_keptB (HO_7.out) hkp (fun k_ hk_ hs_ => (hk_) hs_)) (fun k_ hk_ => hk_.1)); have n1_ := Aside0.mk (Kd.R_reok rfl hy0 (fun k_ e_ => HO_9.out.1 k_ e_)); have n2_ := Aside0.mk (blk_kept (by (with_reducible repeat (first | refine blk_drewN ?_ _ | refine blk_drew ?_ | refine blk_alloc ?_ _)); exact BK1163.out) hkp (fun hs_ => (fun e_ => (Kd.R_ne HO_9.out BK1163.out (by decide)) e_) hs_)); have n3_ := Aside0.mk (blk_kept (by (with_reducible repeat (first | refine blk_drewN ?_ _ | refine blk_drew ?_ | refine blk_alloc ?_ _)); exact BK1164.out) hkp (fun hs_ => (fun e_ => (Kd.R_ne HO_9.out BK1164.out (by decide)) e_) hs_)); have n4_ := Aside0.mk (hb); clear HO_7; clear HO_9; clear BK1163; clear BK1164; clear HB; have HO_7 := n0_; have HO_9 := n1_; have BK1163 := n2_; have BK1164 := n3_; have HB := n4_; clear n0_ n1_ n2_ n3_ n4_; (try clear hb); (try clear hkp); (try clear hy0)) | ((with_reducible refine gate_callee (f := 24) rfl ?_); refine goesL_ (some 47) rfl rfl Try.func24 (by kernel_rfl) rfl #[.slice Ao54 t1187.length co54, .int .i64 1] rfl (by (try simp only [List.map_toArray, List.map_cons, List.map_nil]); first | done | (rw [show t1187.length = t1181.length from (Kd.R_reads' HO_9.out).1.symm] <;> rfl) | rfl | (simp only [List.length_drop, List.length_take]; rfl)) ?_; (with_reducible refine (laws_heldIntS.calls kj9 _ _ t1187 1 t1188 _ ?side1 ?side2 A29.out).mono ?_); (case side1 => repeat (first | exact (Kd.R_reads' HO_9.out).2.2 | (with_reducible refine Kd.C_alloc ?_ _) | (with_reducible refine Kd.C_drewN ?_ _) | (with_reducible refine Kd.C_drew ?_))); (case side2 => rw [show t1187.length = t1181.length from (Kd.R_reads' HO_9.out).1.symm]; exact (Kd.R_reads' HO_9.out).2.1); rintro e w' ⟨rfl, ⟨nd, rfl⟩⟩; refine ⟨_, rfl, ?_⟩))
      go_ret
      exact ⟨by first | rfl | (simp [errW_none, errW_some] <;> rfl) | (simp [*, errW_none, errW_some] <;> rfl), by repeat (first | (with_reducible first | exact HB.out | apply below_alloc | apply pw_below_drewN | apply below_drew1 | refine below_set ?_ GE1163.out | refine below_set ?_ GE1164.out) | exact HB.out)⟩

end Go.Proofs.Ytekajjhjjnfdpaa.Q

/- Written by a program of this session: functions of the translation as plain Lean functions, each with a proof that the call does what the plain function says; the conditions stand in each theorem. -/
import Derived.Test.YtemaokhlolimhaaQ0
import Derived.Test.YtemaokhlolimhaaQ1
import Derived.Test.YtemaokhlolimhaaQ12
import Derived.Test.YtemaokhlolimhaaHInLine
namespace Go.Proofs.Ytemaokhlolimhaa.Q
open Go.RowKit Go.Proofs.YtemaokhlolimhaaW.PrintWords Go.Proofs.YtemaokhlolimhaaW.PrintLast Go.Proofs.YtemaokhlolimhaaW.PrintMore
attribute [local go_sem] max2_int min2_int max_two min_two max_three min_three max_four min_four   -- for this text's walks alone
set_option linter.unusedVariables false
set_option linter.unusedSimpArgs false

attribute [local go_sem high] eqA86
theorem zn1 {p : Prop} (h : p := by repeat (first | (with_reducible first | exact HB.out | apply below_alloc | apply pw_below_drewN | apply below_drew1 | refine below_set ?_ GE255.out | refine below_set ?_ GE256.out | refine below_set ?_ GE257.out | refine below_set ?_ GE258.out) | exact HB.out)) : p := h
theorem zn2 {p : Prop} (h : p := by first | exact BK255.out | ((with_reducible repeat (first | refine blk_drewN ?_ _ | refine blk_drew ?_ | refine blk_alloc ?_ _)); exact BK255.out)) : p := h
theorem zn3 {p : Prop} (h : p := by first | exact BK256.out | ((with_reducible repeat (first | refine blk_drewN ?_ _ | refine blk_drew ?_ | refine blk_alloc ?_ _)); exact BK256.out)) : p := h
theorem zn4 {p : Prop} (h : p := by first | exact BK257.out | ((with_reducible repeat (first | refine blk_drewN ?_ _ | refine blk_drew ?_ | refine blk_alloc ?_ _)); exact BK257.out)) : p := h
theorem zn5 {p : Prop} (h : p := by first | exact BK258.out | ((with_reducible repeat (first | refine blk_drewN ?_ _ | refine blk_drew ?_ | refine blk_alloc ?_ _)); exact BK258.out)) : p := h
theorem zn6 {p : Prop} (h : p := by (try simp only [List.map_toArray, List.map_cons, List.map_nil]); first | done | rfl | (simp only [List.length_drop, List.length_take]; rfl)) : p := h
theorem zn7 {p : Prop} (h : p := by repeat (first | (with_reducible first | exact HB.out | apply below_alloc | apply pw_below_drewN | apply below_drew1 | refine below_set ?_ GE255.out | refine below_set ?_ GE256.out | refine below_set ?_ GE257.out) | exact HB.out)) : p := h
theorem zn8 {p : Prop} (h : p := by repeat (first | (with_reducible first | exact HB.out | apply below_alloc | apply pw_below_drewN | apply below_drew1 | refine below_set ?_ GE255.out | refine below_set ?_ GE256.out) | exact HB.out)) : p := h
theorem zn9 {p : Prop} (h : p := by repeat (first | (with_reducible first | exact HB.out | apply below_alloc | apply pw_below_drewN | apply below_drew1 | refine below_set ?_ GE255.out) | exact HB.out)) : p := h
theorem zn10 {p : Prop} (h : p := by first | rfl | (simp; done) | (simp [*]; done)) : p := h
theorem zn11 {p : Prop} (h : p := by repeat (first | (with_reducible first | exact HB.out | apply below_alloc | apply pw_below_drewN | apply below_drew1) | exact HB.out)) : p := h
theorem zn12 {p : Prop} (h : p := by first | rfl | (simp [errW_none, errW_some] <;> rfl) | (simp [*, errW_none, errW_some] <;> rfl)) : p := h
theorem zn13 {p : Prop} (h : p := by have := HJ8.out; first | omega | exact Nat.le_refl _) : p := h
theorem zn14 {p : Prop} (h : p := by rw [hg]; exact Nat.ne_of_lt (blk_lt (g := gb255) (o := .cells #[.int .i64 a0_0, .int .i64 a0_1] 86 (0, 0)) zn2)) : p := h
theorem zn15 {p : Prop} (h : p := by rw [hg]; exact Nat.ne_of_gt (blk_lt (g := gb255) (o := .cells #[.int .i64 a0_0, .int .i64 a0_1] 86 (0, 0)) zn2)) : p := h
/-- Four 'and's, or'ed. -/
def last4 (d1 b1 d2 b2 d3 b3 d4 b4 : Bool) : Bool := (d1 && b1) || (d2 && b2) || (d3 && b3) || (d4 && b4)
theorem ways4 (d1 b1 d2 b2 d3 b3 d4 b4 : Bool) : (d1 = true ∧ b1 = true) ∨ ((d1 = true ∧ b1 = false ∨ d1 = false) ∧ ((d2 = true ∧ b2 = true) ∨ ((d2 = true ∧ b2 = false ∨ d2 = false) ∧ ((d3 = true ∧ b3 = true) ∨ ((d3 = true ∧ b3 = false ∨ d3 = false) ∧ ((d4 = true ∧ b4 = true) ∨ (d4 = true ∧ b4 = false) ∨ d4 = false)))))) := by
 cases d1 <;> cases b1 <;> simp <;> cases d2 <;> cases b2 <;> simp <;> cases d3 <;> cases b3 <;> simp <;> cases d4 <;> cases b4 <;> simp
theorem between_some (a0_0 a0_1 a1_0 a1_1 a2_0 a2_1 : Int) : ∃ b, impl_between.f a0_0 a0_1 a1_0 a1_1 a2_0 a2_1 = some b := by
 unfold impl_between.f
 (repeat' split) <;> exact ⟨_, rfl⟩
/-! ### impl_crosses: function 70 -/
mutual
def impl_crosses.j0 : Nat → Int → Int → Bool → Int → Int → Int → Int → Int → Int → Int → Int → Option (Bool)
 | 0, _, _, _, _, _, _, _, _, _, _, _ => none
 | k + 1, x9, x10, x28, x256000, x256001, x257000, x257001, x258000, x258001, x259000, x259001 => if x28 = true then ((impl_inLine.f x256000 x256001 x257000 x257001 x258000 x258001 x259000 x259001).bind fun t263 => (some t263)) else ((impl_turn.f x258000 x258001 x259000 x259001 x256000 x256001).bind fun t264 => ((impl_sign.f t264).bind fun t265 => ((impl_turn.f x258000 x258001 x259000 x259001 x257000 x257001).bind fun t266 => ((impl_sign.f t266).bind fun t267 => (if (x256000 == x258000 && (x256001 == x258001)) = true then (impl_crosses.j1 k x9 x10 t265 t267 true x256000 x256001 x257000 x257001 x258000 x258001 x259000 x259001) else (if (x256000 == x259000 && (x256001 == x259001)) = true then (impl_crosses.j1 k x9 x10 t265 t267 true x256000 x256001 x257000 x257001 x258000 x258001 x259000 x259001) else (if (x257000 == x258000 && (x257001 == x258001)) = true then (impl_crosses.j1 k x9 x10 t265 t267 true x256000 x256001 x257000 x257001 x258000 x258001 x259000 x259001) else (impl_crosses.j1 k x9 x10 t265 t267 (x257000 == x259000 && (x257001 == x259001)) x256000 x256001 x257000 x257001 x258000 x258001 x259000 x259001))))))))
def impl_crosses.j1 : Nat → Int → Int → Int → Int → Bool → Int → Int → Int → Int → Int → Int → Int → Int → Option (Bool)
 | 0, _, _, _, _, _, _, _, _, _, _, _, _, _ => none
 | k + 1, x9, x10, x11, x12, x61, x256000, x256001, x257000, x257001, x258000, x258001, x259000, x259001 => if x61 = true then (some false) else (if (wrap64 (x9 * x10)) < 0 then (impl_crosses.j2 k x9 x10 x11 x12 (decide ((wrap64 (x11 * x12)) < 0)) x256000 x256001 x257000 x257001 x258000 x258001 x259000 x259001) else (impl_crosses.j2 k x9 x10 x11 x12 false x256000 x256001 x257000 x257001 x258000 x258001 x259000 x259001))
def impl_crosses.j2 : Nat → Int → Int → Int → Int → Bool → Int → Int → Int → Int → Int → Int → Int → Int → Option (Bool)
 | 0, _, _, _, _, _, _, _, _, _, _, _, _, _ => none
 | k + 1, x9, x10, x11, x12, x71, x256000, x256001, x257000, x257001, x258000, x258001, x259000, x259001 => if x71 = true then (some true) else (if x9 = 0 then ((impl_between.f x256000 x256001 x257000 x257001 x258000 x258001).bind fun t268 => (if t268 = true then (some true) else (if x10 = 0 then ((impl_between.f x256000 x256001 x257000 x257001 x259000 x259001).bind fun t269 => (if t269 = true then (some true) else (if x11 = 0 then ((impl_between.f x258000 x258001 x259000 x259001 x256000 x256001).bind fun t270 => (if t270 = true then (some true) else (if x12 = 0 then ((impl_between.f x258000 x258001 x259000 x259001 x257000 x257001).bind fun t271 => (some t271)) else (some false)))) else (if x12 = 0 then ((impl_between.f x258000 x258001 x259000 x259001 x257000 x257001).bind fun t272 => (some t272)) else (some false))))) else (if x11 = 0 then ((impl_between.f x258000 x258001 x259000 x259001 x256000 x256001).bind fun t273 => (if t273 = true then (some true) else (if x12 = 0 then ((impl_between.f x258000 x258001 x259000 x259001 x257000 x257001).bind fun t274 => (some t274)) else (some false)))) else (if x12 = 0 then ((impl_between.f x258000 x258001 x259000 x259001 x257000 x257001).bind fun t275 => (some t275)) else (some false)))))) else (if x10 = 0 then ((impl_between.f x256000 x256001 x257000 x257001 x259000 x259001).bind fun t276 => (if t276 = true then (some true) else (if x11 = 0 then ((impl_between.f x258000 x258001 x259000 x259001 x256000 x256001).bind fun t277 => (if t277 = true then (some true) else (if x12 = 0 then ((impl_between.f x258000 x258001 x259000 x259001 x257000 x257001).bind fun t278 => (some t278)) else (some false)))) else (if x12 = 0 then ((impl_between.f x258000 x258001 x259000 x259001 x257000 x257001).bind fun t279 => (some t279)) else (some false))))) else (if x11 = 0 then ((impl_between.f x258000 x258001 x259000 x259001 x256000 x256001).bind fun t280 => (if t280 = true then (some true) else (if x12 = 0 then ((impl_between.f x258000 x258001 x259000 x259001 x257000 x257001).bind fun t281 => (some t281)) else (some false)))) else (if x12 = 0 then ((impl_between.f x258000 x258001 x259000 x259001 x257000 x257001).bind fun t282 => (some t282)) else (some false)))))
end
def impl_crosses.f (k : Nat) (a0_0 : Int) (a0_1 : Int) (a1_0 : Int) (a1_1 : Int) (a2_0 : Int) (a2_1 : Int) (a3_0 : Int) (a3_1 : Int) : Option (Bool) := (impl_turn.f a0_0 a0_1 a1_0 a1_1 a2_0 a2_1).bind fun t259 => ((impl_sign.f t259).bind fun t260 => ((impl_turn.f a0_0 a0_1 a1_0 a1_1 a3_0 a3_1).bind fun t261 => ((impl_sign.f t261).bind fun t262 => (if t260 = 0 then (impl_crosses.j0 k t260 t262 (t262 == 0) a0_0 a0_1 a1_0 a1_1 a2_0 a2_1 a3_0 a3_1) else (impl_crosses.j0 k t260 t262 false a0_0 a0_1 a1_0 a1_1 a2_0 a2_1 a3_0 a3_1)))))
def impl_crosses.T1 : Bool × List (List Nat × List Nat) := (true, [([], []), ([], []), ([], []), ([0, 1, 2], [0, 1, 2]), ([3, 3], [3]), ([], []), ([], []), ([], []), ([5, 6, 7, 4], [5, 6, 7]), ([8, 8], [8]), ([4, 9, 0, 1, 2, 3, 4], [4]), ([9, 10, 0, 1, 2, 3, 4, 5, 6, 7, 8, 9, 10], [9])])
def impl_crosses.B1 : List Nat := [0, 0, 0, 7, 15, 0, 0, 0, 255, 511, 1023, 2047]
theorem impl_crosses.tab1 : rtab .any (opsOf Try.f70 1) = impl_crosses.T1 := by kernel_rfl
theorem impl_crosses.bits1 : waitsOk impl_crosses.T1.2 impl_crosses.B1 = true := by kernel_rfl
def impl_crosses.T4 : Bool × List (List Nat × List Nat) := (true, [([], []), ([], []), ([], []), ([0, 1, 2], [0, 1, 2]), ([3, 3], [3]), ([], []), ([], []), ([], []), ([5, 6, 7, 4], [5, 6, 7]), ([8, 8], [8]), ([4, 9, 0, 1, 2, 3, 4], [4]), ([9, 10, 0, 1, 2, 3, 4, 5, 6, 7, 8, 9, 10], [9])])
def impl_crosses.B4 : List Nat := [0, 0, 0, 7, 15, 0, 0, 0, 255, 511, 1023, 2047]
theorem impl_crosses.tab4 : rtab .any (opsOf Try.f70 4) = impl_crosses.T4 := by kernel_rfl
theorem impl_crosses.bits4 : waitsOk impl_crosses.T4.2 impl_crosses.B4 = true := by kernel_rfl
set_option maxHeartbeats 8000000 in
set_option maxRecDepth 100000 in
theorem impl_crosses.calls (k : Nat) (a0_0 : Int) (a0_1 : Int) (a1_0 : Int) (a1_1 : Int) (a2_0 : Int) (a2_1 : Int) (a3_0 : Int) (a3_1 : Int) (r : Bool) (w : World) (h : impl_crosses.f k a0_0 a0_1 a1_0 a1_1 a2_0 a2_1 a3_0 a3_1 = some r) :
  Calls Try.prog 70 #[.agg #[.int .i64 a0_0, .int .i64 a0_1], .agg #[.int .i64 a1_0, .int .i64 a1_1], .agg #[.int .i64 a2_0, .int .i64 a2_1], .agg #[.int .i64 a3_0, .int .i64 a3_1]] w fun e w' => e = .returned (.bool r) ∧ Below w.heap.size w w' := by
 have hu86 := Try.underlying86
 have HB := Aside0.mk (Below.refl w.heap.size w)
 have H : ((impl_turn.f a0_0 a0_1 a1_0 a1_1 a2_0 a2_1).bind fun t259 => ((impl_sign.f t259).bind fun t260 => ((impl_turn.f a0_0 a0_1 a1_0 a1_1 a3_0 a3_1).bind fun t261 => ((impl_sign.f t261).bind fun t262 => (if t260 = 0 then (impl_crosses.j0 k t260 t262 (t262 == 0) a0_0 a0_1 a1_0 a1_1 a2_0 a2_1 a3_0 a3_1) else (impl_crosses.j0 k t260 t262 false a0_0 a0_1 a1_0 a1_1 a2_0 a2_1 a3_0 a3_1)))))) = some r := h
 clear h
 replace H := Option.bind_eq_some_iff.mp H
 obtain ⟨t259, A50, H⟩ := H
 replace H : ((impl_sign.f t259).bind fun t260 => ((impl_turn.f a0_0 a0_1 a1_0 a1_1 a3_0 a3_1).bind fun t261 => ((impl_sign.f t261).bind fun t262 => (if t260 = 0 then (impl_crosses.j0 k t260 t262 (t262 == 0) a0_0 a0_1 a1_0 a1_1 a2_0 a2_1 a3_0 a3_1) else (impl_crosses.j0 k t260 t262 false a0_0 a0_1 a1_0 a1_1 a2_0 a2_1 a3_0 a3_1))))) = some r := H
 have A5 := Aside0.mk A50
 clear A50
 replace H := Option.bind_eq_some_iff.mp H
 obtain ⟨t260, A60, H⟩ := H
 replace H : ((impl_turn.f a0_0 a0_1 a1_0 a1_1 a3_0 a3_1).bind fun t261 => ((impl_sign.f t261).bind fun t262 => (if t260 = 0 then (impl_crosses.j0 k t260 t262 (t262 == 0) a0_0 a0_1 a1_0 a1_1 a2_0 a2_1 a3_0 a3_1) else (impl_crosses.j0 k t260 t262 false a0_0 a0_1 a1_0 a1_1 a2_0 a2_1 a3_0 a3_1)))) = some r := H
 have A6 := Aside0.mk A60
 clear A60
 replace H := Option.bind_eq_some_iff.mp H
 obtain ⟨t261, A70, H⟩ := H
 replace H : ((impl_sign.f t261).bind fun t262 => (if t260 = 0 then (impl_crosses.j0 k t260 t262 (t262 == 0) a0_0 a0_1 a1_0 a1_1 a2_0 a2_1 a3_0 a3_1) else (impl_crosses.j0 k t260 t262 false a0_0 a0_1 a1_0 a1_1 a2_0 a2_1 a3_0 a3_1))) = some r := H
 have A7 := Aside0.mk A70
 clear A70
 replace H := Option.bind_eq_some_iff.mp H
 obtain ⟨t262, A80, H⟩ := H
 replace H : (if t260 = 0 then (impl_crosses.j0 k t260 t262 (t262 == 0) a0_0 a0_1 a1_0 a1_1 a2_0 a2_1 a3_0 a3_1) else (impl_crosses.j0 k t260 t262 false a0_0 a0_1 a1_0 a1_1 a2_0 a2_1 a3_0 a3_1)) = some r := H
 have A8 := Aside0.mk A80
 clear A80
 have HC9 := Aside0.mk H
 clear H
 go_enter Try.func70, Try.ntmps70
 try go_wp2_with (first | ((with_reducible refine gate_dst (N := 4) rfl ?_); refine box_event ?hg (N := 4) ?hd (cs := #[.int .i64 a0_0, .int .i64 a0_1]) (t := 86) ?hr ?_; (case hd => rfl); (case hg => rfl); (case hr => first | (go_simp; done) | (go_simp; rfl)); intro gb255 hg w10 hbox hb; have n0_ := Aside0.mk (below_step zn11 hb); have n1_ := Aside0.mk (hbox); have n2_ := Aside0.mk ((by rw [hg]; exact (below_size zn11) : w.heap.size ≤ gb255)); have n3_ := Aside0.mk ((by rw [hg]; exact (below_size zn11) : w.heap.size ≤ gb255)); clear HB; have HB := n0_; have BK255 := n1_; have GW255 := n2_; have GE255 := n3_; clear n0_ n1_ n2_ n3_; clear hb hbox hg) | ((with_reducible refine gate_dst (N := 5) rfl ?_); refine box_event ?hg (N := 5) ?hd (cs := #[.int .i64 a1_0, .int .i64 a1_1]) (t := 86) ?hr ?_; (case hd => rfl); (case hg => rfl); (case hr => first | (go_simp; done) | (go_simp; rfl)); intro gb256 hg w11 hbox hb; have n0_ := Aside0.mk (blk_below (g := gb255) (o := .cells #[.int .i64 a0_0, .int .i64 a0_1] 86 (0, 0)) zn2 hb); have n1_ := Aside0.mk (below_step zn9 hb); have n2_ := Aside0.mk (hbox); have n3_ := Aside0.mk ((by rw [hg]; exact (below_size zn9) : w.heap.size ≤ gb256)); have n4_ := Aside0.mk ((by rw [hg]; exact (below_size zn9) : w.heap.size ≤ gb256)); have n5_ := Aside0.mk ((zn14 : gb255 ≠ gb256)); have n6_ := Aside0.mk ((zn15 : gb256 ≠ gb255)); clear BK255; clear HB; have BK255 := n0_; have HB := n1_; have BK256 := n2_; have GW256 := n3_; have GE256 := n4_; have NB255_256 := n5_; have NB256_255 := n6_; clear n0_ n1_ n2_ n3_ n4_ n5_ n6_; clear hb hbox hg) | ((with_reducible refine gate_dst (N := 6) rfl ?_); refine box_event ?hg (N := 6) ?hd (cs := #[.int .i64 a2_0, .int .i64 a2_1]) (t := 86) ?hr ?_; (case hd => rfl); (case hg => rfl); (case hr => first | (go_simp; done) | (go_simp; rfl)); intro gb257 hg w12 hbox hb; have n0_ := Aside0.mk (blk_below (g := gb255) (o := .cells #[.int .i64 a0_0, .int .i64 a0_1] 86 (0, 0)) zn2 hb); have n1_ := Aside0.mk (blk_below (g := gb256) (o := .cells #[.int .i64 a1_0, .int .i64 a1_1] 86 (0, 0)) zn3 hb); have n2_ := Aside0.mk (below_step zn8 hb); have n3_ := Aside0.mk (hbox); have n4_ := Aside0.mk ((by rw [hg]; exact (below_size zn8) : w.heap.size ≤ gb257)); have n5_ := Aside0.mk ((by rw [hg]; exact (below_size zn8) : w.heap.size ≤ gb257)); have n6_ := Aside0.mk ((zn14 : gb255 ≠ gb257)); have n7_ := Aside0.mk ((zn15 : gb257 ≠ gb255)); have n8_ := Aside0.mk ((by rw [hg]; exact Nat.ne_of_lt (blk_lt (g := gb256) (o := .cells #[.int .i64 a1_0, .int .i64 a1_1] 86 (0, 0)) zn3) : gb256 ≠ gb257)); have n9_ := Aside0.mk ((by rw [hg]; exact Nat.ne_of_gt (blk_lt (g := gb256) (o := .cells #[.int .i64 a1_0, .int .i64 a1_1] 86 (0, 0)) zn3) : gb257 ≠ gb256)); clear BK255; clear BK256; clear HB; have BK255 := n0_; have BK256 := n1_; have HB := n2_; have BK257 := n3_; have GW257 := n4_; have GE257 := n5_; have NB255_257 := n6_; have NB257_255 := n7_; have NB256_257 := n8_; have NB257_256 := n9_; clear n0_ n1_ n2_ n3_ n4_ n5_ n6_ n7_ n8_ n9_; clear hb hbox hg) | ((with_reducible refine gate_dst (N := 7) rfl ?_); refine box_event ?hg (N := 7) ?hd (cs := #[.int .i64 a3_0, .int .i64 a3_1]) (t := 86) ?hr ?_; (case hd => rfl); (case hg => rfl); (case hr => first | (go_simp; done) | (go_simp; rfl)); intro gb258 hg w13 hbox hb; have n0_ := Aside0.mk (blk_below (g := gb255) (o := .cells #[.int .i64 a0_0, .int .i64 a0_1] 86 (0, 0)) zn2 hb); have n1_ := Aside0.mk (blk_below (g := gb256) (o := .cells #[.int .i64 a1_0, .int .i64 a1_1] 86 (0, 0)) zn3 hb); have n2_ := Aside0.mk (blk_below (g := gb257) (o := .cells #[.int .i64 a2_0, .int .i64 a2_1] 86 (0, 0)) zn4 hb); have n3_ := Aside0.mk (below_step zn7 hb); have n4_ := Aside0.mk (hbox); have n5_ := Aside0.mk ((by rw [hg]; exact (below_size zn7) : w.heap.size ≤ gb258)); have n6_ := Aside0.mk ((by rw [hg]; exact (below_size zn7) : w.heap.size ≤ gb258)); have n7_ := Aside0.mk ((zn14 : gb255 ≠ gb258)); have n8_ := Aside0.mk ((zn15 : gb258 ≠ gb255)); have n9_ := Aside0.mk ((by rw [hg]; exact Nat.ne_of_lt (blk_lt (g := gb256) (o := .cells #[.int .i64 a1_0, .int .i64 a1_1] 86 (0, 0)) zn3) : gb256 ≠ gb258)); have n10_ := Aside0.mk ((by rw [hg]; exact Nat.ne_of_gt (blk_lt (g := gb256) (o := .cells #[.int .i64 a1_0, .int .i64 a1_1] 86 (0, 0)) zn3) : gb258 ≠ gb256)); have n11_ := Aside0.mk ((by rw [hg]; exact Nat.ne_of_lt (blk_lt (g := gb257) (o := .cells #[.int .i64 a2_0, .int .i64 a2_1] 86 (0, 0)) zn4) : gb257 ≠ gb258)); have n12_ := Aside0.mk ((by rw [hg]; exact Nat.ne_of_gt (blk_lt (g := gb257) (o := .cells #[.int .i64 a2_0, .int .i64 a2_1] 86 (0, 0)) zn4) : gb258 ≠ gb257)); clear BK255; clear BK256; clear BK257; clear HB; have BK255 := n0_; have BK256 := n1_; have BK257 := n2_; have HB := n3_; have BK258 := n4_; have GW258 := n5_; have GE258 := n6_; have NB255_258 := n7_; have NB258_255 := n8_; have NB256_258 := n9_; have NB258_256 := n10_; have NB257_258 := n11_; have NB258_257 := n12_; clear n0_ n1_ n2_ n3_ n4_ n5_ n6_ n7_ n8_ n9_ n10_ n11_ n12_; clear hb hbox hg))
 have n0_ := Aside0.mk (blk_drew BK255.out)
 have n1_ := Aside0.mk (blk_drew BK256.out)
 have n2_ := Aside0.mk (blk_drew BK257.out)
 have n3_ := Aside0.mk (blk_drew BK258.out)
 have n4_ := Aside0.mk (below_drew1 HB.out)
 clear BK255
 clear BK256
 clear BK257
 clear BK258
 clear HB
 have BK255 := n0_
 have BK256 := n1_
 have BK257 := n2_
 have BK258 := n3_
 have HB := n4_
 clear n0_ n1_ n2_ n3_ n4_
 refine start_ (n := 12) (S := fun w' => w'.cell? ⟨gb255, 0, none⟩ = some (.int .i64 a0_0) ∧ w'.cell? ⟨gb255, 1, none⟩ = some (.int .i64 a0_1) ∧ w'.cell? ⟨gb256, 0, none⟩ = some (.int .i64 a1_0) ∧ w'.cell? ⟨gb256, 1, none⟩ = some (.int .i64 a1_1) ∧ w'.cell? ⟨gb257, 0, none⟩ = some (.int .i64 a2_0) ∧ w'.cell? ⟨gb257, 1, none⟩ = some (.int .i64 a2_1) ∧ w'.cell? ⟨gb258, 0, none⟩ = some (.int .i64 a3_0) ∧ w'.cell? ⟨gb258, 1, none⟩ = some (.int .i64 a3_1)) (ds := []) #[false, false, false, false, false, false, false, false, false, false, false, false] (by kernel_rfl) rfl rfl ⟨(blk_cell BK255.out 0).trans rfl, (blk_cell BK255.out 1).trans rfl, (blk_cell BK256.out 0).trans rfl, (blk_cell BK256.out 1).trans rfl, (blk_cell BK257.out 0).trans rfl, (blk_cell BK257.out 1).trans rfl, (blk_cell BK258.out 0).trans rfl, (blk_cell BK258.out 1).trans rfl⟩ (fun hHeld => ?_); refine with_tabW impl_crosses.tab1 impl_crosses.bits1 (fun HT_ HW_ => ?_)
 generalize w13.drew = w14 at BK255 BK256 BK257 BK258 HB hHeld ⊢
 refine take_ (i := 0) (N := some 13) (v := ?_) (a' := ?_) (bq 12 1) rfl rfl (take_ofW HT_.out HW_.out (by kernel_rfl)) (fun _ _ _ h => h) (Or.inl ⟨by rfl, ?_⟩) hHeld ?_ ?_
 rotate_left
 ·rintro w' ⟨s0, s1, s2, s3, s4, s5, s6, s7⟩
  go_simp
  with_reducible rfl
 rotate_left
 ·simp only [Act.put, List.setIfInBounds_toArray, List.set_cons_zero, List.set_cons_succ, i64_w, i32_w]
  rfl
 refine take_ (i := 1) (N := some 14) (v := ?_) (a' := ?_) (bq 12 3) rfl rfl (take_ofW HT_.out HW_.out (by kernel_rfl)) (fun _ _ _ h => h) (Or.inl ⟨by rfl, ?_⟩) hHeld ?_ ?_
 rotate_left
 ·rintro w' ⟨s0, s1, s2, s3, s4, s5, s6, s7⟩
  go_simp
  with_reducible rfl
 rotate_left
 ·simp only [Act.put, List.setIfInBounds_toArray, List.set_cons_zero, List.set_cons_succ, i64_w, i32_w]
  rfl
 refine take_ (i := 2) (N := some 15) (v := ?_) (a' := ?_) (bq 12 7) rfl rfl (take_ofW HT_.out HW_.out (by kernel_rfl)) (fun _ _ _ h => h) (Or.inl ⟨by rfl, ?_⟩) hHeld ?_ ?_
 rotate_left
 ·rintro w' ⟨s0, s1, s2, s3, s4, s5, s6, s7⟩
  go_simp
  with_reducible rfl
 rotate_left
 ·simp only [Act.put, List.setIfInBounds_toArray, List.set_cons_zero, List.set_cons_succ, i64_w, i32_w]
  rfl
 refine take_ (i := 5) (N := some 18) (v := ?_) (a' := ?_) (bq 12 39) rfl rfl (take_ofW HT_.out HW_.out (by kernel_rfl)) (fun _ _ _ h => h) (Or.inl ⟨by rfl, ?_⟩) hHeld ?_ ?_
 rotate_left
 ·rintro w' ⟨s0, s1, s2, s3, s4, s5, s6, s7⟩
  go_simp
  with_reducible rfl
 rotate_left
 ·simp only [Act.put, List.setIfInBounds_toArray, List.set_cons_zero, List.set_cons_succ, i64_w, i32_w]
  rfl
 refine take_ (i := 6) (N := some 19) (v := ?_) (a' := ?_) (bq 12 103) rfl rfl (take_ofW HT_.out HW_.out (by kernel_rfl)) (fun _ _ _ h => h) (Or.inl ⟨by rfl, ?_⟩) hHeld ?_ ?_
 rotate_left
 ·rintro w' ⟨s0, s1, s2, s3, s4, s5, s6, s7⟩
  go_simp
  with_reducible rfl
 rotate_left
 ·simp only [Act.put, List.setIfInBounds_toArray, List.set_cons_zero, List.set_cons_succ, i64_w, i32_w]
  rfl
 refine take_ (i := 7) (N := some 20) (v := ?_) (a' := ?_) (bq 12 231) rfl rfl (take_ofW HT_.out HW_.out (by kernel_rfl)) (fun _ _ _ h => h) (Or.inl ⟨by rfl, ?_⟩) hHeld ?_ ?_
 rotate_left
 ·rintro w' ⟨s0, s1, s2, s3, s4, s5, s6, s7⟩
  go_simp
  with_reducible rfl
 rotate_left
 ·simp only [Act.put, List.setIfInBounds_toArray, List.set_cons_zero, List.set_cons_succ, i64_w, i32_w]
  rfl
 refine one_ (i := 3) (N := some 16) (bq 12 239) rfl rfl (one_of HT_.out (by kernel_rfl)) (by decide) (fun K hK => ?_)
 refine goes_ Try.func89 (by kernel_rfl) rfl #[.agg #[.int .i64 a0_0, .int .i64 a0_1], .agg #[.int .i64 a1_0, .int .i64 a1_1], .agg #[.int .i64 a2_0, .int .i64 a2_1]] (by rfl) rfl rfl zn6 ?_
 with_reducible refine (impl_turn.calls a0_0 a0_1 a1_0 a1_1 a2_0 a2_1 t259 _ A5.out).mono ?_
 rintro e w15 ⟨rfl, hb⟩
 refine ⟨_, rfl, ?_⟩
 have n0_ := Aside0.mk (blk_below (g := gb255) (o := .cells #[.int .i64 a0_0, .int .i64 a0_1] 86 (0, 0)) zn2 hb)
 have n1_ := Aside0.mk (blk_below (g := gb256) (o := .cells #[.int .i64 a1_0, .int .i64 a1_1] 86 (0, 0)) zn3 hb)
 have n2_ := Aside0.mk (blk_below (g := gb257) (o := .cells #[.int .i64 a2_0, .int .i64 a2_1] 86 (0, 0)) zn4 hb)
 have n3_ := Aside0.mk (blk_below (g := gb258) (o := .cells #[.int .i64 a3_0, .int .i64 a3_1] 86 (0, 0)) zn5 hb)
 have n4_ := Aside0.mk (below_step zn1 hb)
 clear BK255
 clear BK256
 clear BK257
 clear BK258
 clear HB
 have BK255 := n0_
 have BK256 := n1_
 have BK257 := n2_
 have BK258 := n3_
 have HB := n4_
 clear n0_ n1_ n2_ n3_ n4_
 (try clear hb)
 (try clear hb2)
 (try clear hk)
 (try clear hi)
 (try clear hna_)
 (try clear hnb_)
 refine hK.out _ _ ⟨(blk_cell BK255.out 0).trans rfl, (blk_cell BK255.out 1).trans rfl, (blk_cell BK256.out 0).trans rfl, (blk_cell BK256.out 1).trans rfl, (blk_cell BK257.out 0).trans rfl, (blk_cell BK257.out 1).trans rfl, (blk_cell BK258.out 0).trans rfl, (blk_cell BK258.out 1).trans rfl⟩ (fun hHeld => ?_)
 clear hK K
 refine norm_ (a' := ?_) ?_ ?_
 rotate_left
 ·show Act.put _ (some 16) _ = _
  simp only [Act.put, List.setIfInBounds_toArray, List.set_cons_zero, List.set_cons_succ, i64_w, i32_w]
  rfl
 refine one_ (i := 4) (N := some 17) (bq 12 255) rfl rfl (one_of HT_.out (by kernel_rfl)) (by decide) (fun K hK => ?_)
 refine goes_ Try.func88 (by kernel_rfl) rfl #[.int .i64 t259] (by rfl) rfl rfl zn6 ?_
 with_reducible refine (impl_sign.calls t259 t260 _ A6.out).mono ?_
 rintro e w' ⟨rfl, ⟨nd, rfl⟩⟩
 refine ⟨_, rfl, ?_⟩
 refine hK.out _ _ ⟨(blk_cell BK255.out 0).trans rfl, (blk_cell BK255.out 1).trans rfl, (blk_cell BK256.out 0).trans rfl, (blk_cell BK256.out 1).trans rfl, (blk_cell BK257.out 0).trans rfl, (blk_cell BK257.out 1).trans rfl, (blk_cell BK258.out 0).trans rfl, (blk_cell BK258.out 1).trans rfl⟩ (fun hHeld => ?_)
 clear hK K
 refine norm_ (a' := ?_) ?_ ?_
 rotate_left
 ·show Act.put _ (some 17) _ = _
  simp only [Act.put, List.setIfInBounds_toArray, List.set_cons_zero, List.set_cons_succ, i64_w, i32_w]
  rfl
 refine one_ (i := 8) (N := some 21) (bq 12 511) rfl rfl (one_of HT_.out (by kernel_rfl)) (by decide) (fun K hK => ?_)
 refine goes_ Try.func89 (by kernel_rfl) rfl #[.agg #[.int .i64 a0_0, .int .i64 a0_1], .agg #[.int .i64 a1_0, .int .i64 a1_1], .agg #[.int .i64 a3_0, .int .i64 a3_1]] (by rfl) rfl rfl zn6 ?_
 with_reducible refine (impl_turn.calls a0_0 a0_1 a1_0 a1_1 a3_0 a3_1 t261 _ A7.out).mono ?_
 rintro e w16 ⟨rfl, hb⟩
 refine ⟨_, rfl, ?_⟩
 have n0_ := Aside0.mk (blk_below (g := gb255) (o := .cells #[.int .i64 a0_0, .int .i64 a0_1] 86 (0, 0)) zn2 hb)
 have n1_ := Aside0.mk (blk_below (g := gb256) (o := .cells #[.int .i64 a1_0, .int .i64 a1_1] 86 (0, 0)) zn3 hb)
 have n2_ := Aside0.mk (blk_below (g := gb257) (o := .cells #[.int .i64 a2_0, .int .i64 a2_1] 86 (0, 0)) zn4 hb)
 have n3_ := Aside0.mk (blk_below (g := gb258) (o := .cells #[.int .i64 a3_0, .int .i64 a3_1] 86 (0, 0)) zn5 hb)
 have n4_ := Aside0.mk (below_step zn1 hb)
 clear BK255
 clear BK256
 clear BK257
 clear BK258
 clear HB
 have BK255 := n0_
 have BK256 := n1_
 have BK257 := n2_
 have BK258 := n3_
 have HB := n4_
 clear n0_ n1_ n2_ n3_ n4_
 (try clear hb)
 (try clear hb2)
 (try clear hk)
 (try clear hi)
 (try clear hna_)
 (try clear hnb_)
 refine hK.out _ _ ⟨(blk_cell BK255.out 0).trans rfl, (blk_cell BK255.out 1).trans rfl, (blk_cell BK256.out 0).trans rfl, (blk_cell BK256.out 1).trans rfl, (blk_cell BK257.out 0).trans rfl, (blk_cell BK257.out 1).trans rfl, (blk_cell BK258.out 0).trans rfl, (blk_cell BK258.out 1).trans rfl⟩ (fun hHeld => ?_)
 clear hK K
 refine norm_ (a' := ?_) ?_ ?_
 rotate_left
 ·show Act.put _ (some 21) _ = _
  simp only [Act.put, List.setIfInBounds_toArray, List.set_cons_zero, List.set_cons_succ, i64_w, i32_w]
  rfl
 refine one_ (i := 9) (N := some 22) (bq 12 1023) rfl rfl (one_of HT_.out (by kernel_rfl)) (by decide) (fun K hK => ?_)
 refine goes_ Try.func88 (by kernel_rfl) rfl #[.int .i64 t261] (by rfl) rfl rfl zn6 ?_
 with_reducible refine (impl_sign.calls t261 t262 _ A8.out).mono ?_
 rintro e w' ⟨rfl, ⟨nd, rfl⟩⟩
 refine ⟨_, rfl, ?_⟩
 refine hK.out _ _ ⟨(blk_cell BK255.out 0).trans rfl, (blk_cell BK255.out 1).trans rfl, (blk_cell BK256.out 0).trans rfl, (blk_cell BK256.out 1).trans rfl, (blk_cell BK257.out 0).trans rfl, (blk_cell BK257.out 1).trans rfl, (blk_cell BK258.out 0).trans rfl, (blk_cell BK258.out 1).trans rfl⟩ (fun hHeld => ?_)
 clear hK K
 refine norm_ (a' := ?_) ?_ ?_
 rotate_left
 ·show Act.put _ (some 22) _ = _
  simp only [Act.put, List.setIfInBounds_toArray, List.set_cons_zero, List.set_cons_succ, i64_w, i32_w]
  rfl
 refine pure_ (i := 10) (N := some 9) (v := ?_) (a' := ?_) (bq 12 2047) rfl rfl (any_of HT_.out (by kernel_rfl)) (fun _ _ _ h => h) (Or.inl ⟨by rfl, ?_⟩) ?_ ?_
 rotate_left
 ·intro w'
  go_simp
  with_reducible rfl
 rotate_left
 ·simp only [Act.put, List.setIfInBounds_toArray, List.set_cons_zero, List.set_cons_succ, i64_w, i32_w]
  rfl
 refine pure_ (i := 11) (N := some 10) (v := ?_) (a' := ?_) (bq 12 4095) rfl rfl (any_of HT_.out (by kernel_rfl)) (fun _ _ _ h => h) (Or.inl ⟨by rfl, ?_⟩) ?_ ?_
 rotate_left
 ·intro w'
  go_simp
  with_reducible rfl
 rotate_left
 ·simp only [Act.put, List.setIfInBounds_toArray, List.set_cons_zero, List.set_cons_succ, i64_w, i32_w]
  rfl
 refine done_ (done_of HT_.out (by kernel_rfl)) ?_
 go_upto_region 2 with (fail)
 go_cut [28] (fun v28 wc => ∃ (kq : Nat) (x28_8 : Bool), v28 = .bool x28_8 ∧ Aside0 (impl_crosses.j0 kq t260 t262 x28_8 a0_0 a0_1 a1_0 a1_1 a2_0 a2_1 a3_0 a3_1 = some r) ∧ Aside0 (kq ≤ k) ∧ Aside0 (wc.heap[gb255]? = some (.cells #[.int .i64 a0_0, .int .i64 a0_1] 86 (0, 0))) ∧ Aside0 (wc.heap[gb256]? = some (.cells #[.int .i64 a1_0, .int .i64 a1_1] 86 (0, 0))) ∧ Aside0 (wc.heap[gb257]? = some (.cells #[.int .i64 a2_0, .int .i64 a2_1] 86 (0, 0))) ∧ Aside0 (wc.heap[gb258]? = some (.cells #[.int .i64 a3_0, .int .i64 a3_1] 86 (0, 0))) ∧ Aside0 (Below w.heap.size w wc))
 case first =>
  have H := HC9.out
  clear HC9
  by_cases c17 : t260 = 0
  rotate_left
  ·rw [if_neg c17] at H
   have c17b0 : (t260 == 0) = false := beq_eq_false_iff_ne.mpr c17
   have c17b1 : (t260 != 0) = true := bne_iff_ne.mpr c17
   (first | rw [c17b0] | (simp only [i64_w, i32_w]; rw [c17b0]) | skip)
   have H' := Aside0.mk H
   clear H
   go_wp2
   go_meet
   case rel => exact ⟨_, (false), zn10, H', ⟨by first | omega | exact Nat.le_refl _⟩, ⟨zn2⟩, ⟨zn3⟩, ⟨zn4⟩, ⟨zn5⟩, ⟨zn1⟩⟩
  rw [if_pos c17] at H
  have c17b0 : (t260 == 0) = true := beq_iff_eq.mpr c17
  have c17b1 : (t260 != 0) = false := bne_eq_false_iff_eq.mpr c17
  clear c17
  (first | rw [c17b0] | (simp only [i64_w, i32_w]; rw [c17b0]) | skip)
  have H' := Aside0.mk H
  clear H
  go_wp2
  go_meet
  case rel => exact ⟨_, ((t262 == 0)), zn10, H', ⟨by first | omega | exact Nat.le_refl _⟩, ⟨zn2⟩, ⟨zn3⟩, ⟨zn4⟩, ⟨zn5⟩, ⟨zn1⟩⟩
 case rest =>
  clear HC9
  try clear c1; try clear p2; try clear c7; try clear c8; try clear c17; try clear c17b0; try clear c17b1
  obtain ⟨kq, x28_8, rfl, HA, HJ8, BK255, BK256, BK257, BK258, HB⟩ := hcut
  cases kq with
  | zero => exact absurd HA.out (by simp [impl_crosses.j0])
  | succ kj8 =>
   have H := HA.out
   clear HA
   simp only [impl_crosses.j0] at H
   by_cases c18 : x28_8 = true
   ·subst c18
    have H1 : ((impl_inLine.f a0_0 a0_1 a1_0 a1_1 a2_0 a2_1 a3_0 a3_1).bind fun t263 => (some t263)) = some r := by rw [if_pos rfl] at H; exact H
    clear H
    have H := H1
    clear H1
    replace H := Option.bind_eq_some_iff.mp H
    obtain ⟨t263, A190, H⟩ := H
    replace H : (some t263) = some r := H
    have A19 := Aside0.mk A190
    clear A190
    obtain rfl := Option.some.inj H
    have hnb20 := NB255_256.out
    have hnc20 := NB256_255.out
    have hnb21 := NB255_257.out
    have hnc21 := NB257_255.out
    have hnb22 := NB255_258.out
    have hnc22 := NB258_255.out
    have hcz23_0 : wc.cell? ⟨gb255, 0, none⟩ = some (.int .i64 a0_0) := (blk_cell BK255.out 0).trans rfl
    have hcz23_1 : wc.cell? ⟨gb255, 1, none⟩ = some (.int .i64 a0_1) := (blk_cell BK255.out 1).trans rfl
    have hfz23_0 := blk_frozen BK255.out 0
    have hfz23_1 := blk_frozen BK255.out 1
    have hnb24 := NB256_257.out
    have hnc24 := NB257_256.out
    have hnb25 := NB256_258.out
    have hnc25 := NB258_256.out
    have hcz26_0 : wc.cell? ⟨gb256, 0, none⟩ = some (.int .i64 a1_0) := (blk_cell BK256.out 0).trans rfl
    have hcz26_1 : wc.cell? ⟨gb256, 1, none⟩ = some (.int .i64 a1_1) := (blk_cell BK256.out 1).trans rfl
    have hfz26_0 := blk_frozen BK256.out 0
    have hfz26_1 := blk_frozen BK256.out 1
    have hnb27 := NB257_258.out
    have hnc27 := NB258_257.out
    have hcz28_0 : wc.cell? ⟨gb257, 0, none⟩ = some (.int .i64 a2_0) := (blk_cell BK257.out 0).trans rfl
    have hcz28_1 : wc.cell? ⟨gb257, 1, none⟩ = some (.int .i64 a2_1) := (blk_cell BK257.out 1).trans rfl
    have hfz28_0 := blk_frozen BK257.out 0
    have hfz28_1 := blk_frozen BK257.out 1
    have hcz29_0 : wc.cell? ⟨gb258, 0, none⟩ = some (.int .i64 a3_0) := (blk_cell BK258.out 0).trans rfl
    have hcz29_1 : wc.cell? ⟨gb258, 1, none⟩ = some (.int .i64 a3_1) := (blk_cell BK258.out 1).trans rfl
    have hfz29_0 := blk_frozen BK258.out 0
    have hfz29_1 := blk_frozen BK258.out 1
    go_wp2_with (first | ((with_reducible refine gate_callee (f := 90) rfl ?_); refine goesL_ (some 33) rfl rfl Try.func90 (by kernel_rfl) rfl #[.agg #[.int .i64 a0_0, .int .i64 a0_1], .agg #[.int .i64 a1_0, .int .i64 a1_1], .agg #[.int .i64 a2_0, .int .i64 a2_1], .agg #[.int .i64 a3_0, .int .i64 a3_1]] rfl zn6 ?_; (with_reducible refine (impl_inLine.calls a0_0 a0_1 a1_0 a1_1 a2_0 a2_1 a3_0 a3_1 t263 _ A19.out).mono ?_); rintro e w30 ⟨rfl, hb⟩; refine ⟨_, rfl, ?_⟩; have n0_ := Aside0.mk (blk_below (g := gb255) (o := .cells #[.int .i64 a0_0, .int .i64 a0_1] 86 (0, 0)) zn2 hb); have n1_ := Aside0.mk (blk_below (g := gb256) (o := .cells #[.int .i64 a1_0, .int .i64 a1_1] 86 (0, 0)) zn3 hb); have n2_ := Aside0.mk (blk_below (g := gb257) (o := .cells #[.int .i64 a2_0, .int .i64 a2_1] 86 (0, 0)) zn4 hb); have n3_ := Aside0.mk (blk_below (g := gb258) (o := .cells #[.int .i64 a3_0, .int .i64 a3_1] 86 (0, 0)) zn5 hb); have n4_ := Aside0.mk (below_step zn1 hb); clear BK255; clear BK256; clear BK257; clear BK258; clear HB; have BK255 := n0_; have BK256 := n1_; have BK257 := n2_; have BK258 := n3_; have HB := n4_; clear n0_ n1_ n2_ n3_ n4_; (try clear hb); (try clear hb2); (try clear hk); (try clear hi); (try clear hna_); (try clear hnb_)))
    go_ret
    exact ⟨zn12, zn1⟩
   replace c18 := Bool.eq_false_iff.mpr c18
   subst c18
   have H1 : ((impl_turn.f a2_0 a2_1 a3_0 a3_1 a0_0 a0_1).bind fun t264 => ((impl_sign.f t264).bind fun t265 => ((impl_turn.f a2_0 a2_1 a3_0 a3_1 a1_0 a1_1).bind fun t266 => ((impl_sign.f t266).bind fun t267 => (if (a0_0 == a2_0 && (a0_1 == a2_1)) = true then (impl_crosses.j1 kj8 t260 t262 t265 t267 true a0_0 a0_1 a1_0 a1_1 a2_0 a2_1 a3_0 a3_1) else (if (a0_0 == a3_0 && (a0_1 == a3_1)) = true then (impl_crosses.j1 kj8 t260 t262 t265 t267 true a0_0 a0_1 a1_0 a1_1 a2_0 a2_1 a3_0 a3_1) else (if (a1_0 == a2_0 && (a1_1 == a2_1)) = true then (impl_crosses.j1 kj8 t260 t262 t265 t267 true a0_0 a0_1 a1_0 a1_1 a2_0 a2_1 a3_0 a3_1) else (impl_crosses.j1 kj8 t260 t262 t265 t267 (a1_0 == a3_0 && (a1_1 == a3_1)) a0_0 a0_1 a1_0 a1_1 a2_0 a2_1 a3_0 a3_1)))))))) = some r := by rw [if_neg (show ¬ (false = true) by decide)] at H; exact H
   clear H
   have H := H1
   clear H1
   replace H := Option.bind_eq_some_iff.mp H
   obtain ⟨t264, A310, H⟩ := H
   replace H : ((impl_sign.f t264).bind fun t265 => ((impl_turn.f a2_0 a2_1 a3_0 a3_1 a1_0 a1_1).bind fun t266 => ((impl_sign.f t266).bind fun t267 => (if (a0_0 == a2_0 && (a0_1 == a2_1)) = true then (impl_crosses.j1 kj8 t260 t262 t265 t267 true a0_0 a0_1 a1_0 a1_1 a2_0 a2_1 a3_0 a3_1) else (if (a0_0 == a3_0 && (a0_1 == a3_1)) = true then (impl_crosses.j1 kj8 t260 t262 t265 t267 true a0_0 a0_1 a1_0 a1_1 a2_0 a2_1 a3_0 a3_1) else (if (a1_0 == a2_0 && (a1_1 == a2_1)) = true then (impl_crosses.j1 kj8 t260 t262 t265 t267 true a0_0 a0_1 a1_0 a1_1 a2_0 a2_1 a3_0 a3_1) else (impl_crosses.j1 kj8 t260 t262 t265 t267 (a1_0 == a3_0 && (a1_1 == a3_1)) a0_0 a0_1 a1_0 a1_1 a2_0 a2_1 a3_0 a3_1))))))) = some r := H
   have A31 := Aside0.mk A310
   clear A310
   replace H := Option.bind_eq_some_iff.mp H
   obtain ⟨t265, A320, H⟩ := H
   replace H : ((impl_turn.f a2_0 a2_1 a3_0 a3_1 a1_0 a1_1).bind fun t266 => ((impl_sign.f t266).bind fun t267 => (if (a0_0 == a2_0 && (a0_1 == a2_1)) = true then (impl_crosses.j1 kj8 t260 t262 t265 t267 true a0_0 a0_1 a1_0 a1_1 a2_0 a2_1 a3_0 a3_1) else (if (a0_0 == a3_0 && (a0_1 == a3_1)) = true then (impl_crosses.j1 kj8 t260 t262 t265 t267 true a0_0 a0_1 a1_0 a1_1 a2_0 a2_1 a3_0 a3_1) else (if (a1_0 == a2_0 && (a1_1 == a2_1)) = true then (impl_crosses.j1 kj8 t260 t262 t265 t267 true a0_0 a0_1 a1_0 a1_1 a2_0 a2_1 a3_0 a3_1) else (impl_crosses.j1 kj8 t260 t262 t265 t267 (a1_0 == a3_0 && (a1_1 == a3_1)) a0_0 a0_1 a1_0 a1_1 a2_0 a2_1 a3_0 a3_1)))))) = some r := H
   have A32 := Aside0.mk A320
   clear A320
   replace H := Option.bind_eq_some_iff.mp H
   obtain ⟨t266, A330, H⟩ := H
   replace H : ((impl_sign.f t266).bind fun t267 => (if (a0_0 == a2_0 && (a0_1 == a2_1)) = true then (impl_crosses.j1 kj8 t260 t262 t265 t267 true a0_0 a0_1 a1_0 a1_1 a2_0 a2_1 a3_0 a3_1) else (if (a0_0 == a3_0 && (a0_1 == a3_1)) = true then (impl_crosses.j1 kj8 t260 t262 t265 t267 true a0_0 a0_1 a1_0 a1_1 a2_0 a2_1 a3_0 a3_1) else (if (a1_0 == a2_0 && (a1_1 == a2_1)) = true then (impl_crosses.j1 kj8 t260 t262 t265 t267 true a0_0 a0_1 a1_0 a1_1 a2_0 a2_1 a3_0 a3_1) else (impl_crosses.j1 kj8 t260 t262 t265 t267 (a1_0 == a3_0 && (a1_1 == a3_1)) a0_0 a0_1 a1_0 a1_1 a2_0 a2_1 a3_0 a3_1))))) = some r := H
   have A33 := Aside0.mk A330
   clear A330
   replace H := Option.bind_eq_some_iff.mp H
   obtain ⟨t267, A340, H⟩ := H
   replace H : (if (a0_0 == a2_0 && (a0_1 == a2_1)) = true then (impl_crosses.j1 kj8 t260 t262 t265 t267 true a0_0 a0_1 a1_0 a1_1 a2_0 a2_1 a3_0 a3_1) else (if (a0_0 == a3_0 && (a0_1 == a3_1)) = true then (impl_crosses.j1 kj8 t260 t262 t265 t267 true a0_0 a0_1 a1_0 a1_1 a2_0 a2_1 a3_0 a3_1) else (if (a1_0 == a2_0 && (a1_1 == a2_1)) = true then (impl_crosses.j1 kj8 t260 t262 t265 t267 true a0_0 a0_1 a1_0 a1_1 a2_0 a2_1 a3_0 a3_1) else (impl_crosses.j1 kj8 t260 t262 t265 t267 (a1_0 == a3_0 && (a1_1 == a3_1)) a0_0 a0_1 a1_0 a1_1 a2_0 a2_1 a3_0 a3_1)))) = some r := H
   have A34 := Aside0.mk A340
   clear A340
   have HC35 := Aside0.mk H
   clear H
   try go_wp2
   have n0_ := Aside0.mk (blk_drew BK255.out)
   have n1_ := Aside0.mk (blk_drew BK256.out)
   have n2_ := Aside0.mk (blk_drew BK257.out)
   have n3_ := Aside0.mk (blk_drew BK258.out)
   have n4_ := Aside0.mk (below_drew1 HB.out)
   clear BK255
   clear BK256
   clear BK257
   clear BK258
   clear HB
   have BK255 := n0_
   have BK256 := n1_
   have BK257 := n2_
   have BK258 := n3_
   have HB := n4_
   clear n0_ n1_ n2_ n3_ n4_
   refine start_ (n := 12) (S := fun w' => w'.cell? ⟨gb257, 0, none⟩ = some (.int .i64 a2_0) ∧ w'.cell? ⟨gb257, 1, none⟩ = some (.int .i64 a2_1) ∧ w'.cell? ⟨gb258, 0, none⟩ = some (.int .i64 a3_0) ∧ w'.cell? ⟨gb258, 1, none⟩ = some (.int .i64 a3_1) ∧ w'.cell? ⟨gb255, 0, none⟩ = some (.int .i64 a0_0) ∧ w'.cell? ⟨gb255, 1, none⟩ = some (.int .i64 a0_1) ∧ w'.cell? ⟨gb256, 0, none⟩ = some (.int .i64 a1_0) ∧ w'.cell? ⟨gb256, 1, none⟩ = some (.int .i64 a1_1)) (ds := []) #[false, false, false, false, false, false, false, false, false, false, false, false] (by kernel_rfl) rfl rfl ⟨(blk_cell BK257.out 0).trans rfl, (blk_cell BK257.out 1).trans rfl, (blk_cell BK258.out 0).trans rfl, (blk_cell BK258.out 1).trans rfl, (blk_cell BK255.out 0).trans rfl, (blk_cell BK255.out 1).trans rfl, (blk_cell BK256.out 0).trans rfl, (blk_cell BK256.out 1).trans rfl⟩ (fun hHeld => ?_); refine with_tabW impl_crosses.tab4 impl_crosses.bits4 (fun HT_ HW_ => ?_)
   generalize wc.drew = w36 at BK255 BK256 BK257 BK258 HB hHeld ⊢
   refine take_ (i := 0) (N := some 34) (v := ?_) (a' := ?_) (bq 12 1) rfl rfl (take_ofW HT_.out HW_.out (by kernel_rfl)) (fun _ _ _ h => h) (Or.inl ⟨by rfl, ?_⟩) hHeld ?_ ?_
   rotate_left
   ·rintro w' ⟨s0, s1, s2, s3, s4, s5, s6, s7⟩
    go_simp
    with_reducible rfl
   rotate_left
   ·simp only [Act.put, List.setIfInBounds_toArray, List.set_cons_zero, List.set_cons_succ, i64_w, i32_w]
    rfl
   refine take_ (i := 1) (N := some 35) (v := ?_) (a' := ?_) (bq 12 3) rfl rfl (take_ofW HT_.out HW_.out (by kernel_rfl)) (fun _ _ _ h => h) (Or.inl ⟨by rfl, ?_⟩) hHeld ?_ ?_
   rotate_left
   ·rintro w' ⟨s0, s1, s2, s3, s4, s5, s6, s7⟩
    go_simp
    with_reducible rfl
   rotate_left
   ·simp only [Act.put, List.setIfInBounds_toArray, List.set_cons_zero, List.set_cons_succ, i64_w, i32_w]
    rfl
   refine take_ (i := 2) (N := some 36) (v := ?_) (a' := ?_) (bq 12 7) rfl rfl (take_ofW HT_.out HW_.out (by kernel_rfl)) (fun _ _ _ h => h) (Or.inl ⟨by rfl, ?_⟩) hHeld ?_ ?_
   rotate_left
   ·rintro w' ⟨s0, s1, s2, s3, s4, s5, s6, s7⟩
    go_simp
    with_reducible rfl
   rotate_left
   ·simp only [Act.put, List.setIfInBounds_toArray, List.set_cons_zero, List.set_cons_succ, i64_w, i32_w]
    rfl
   refine take_ (i := 5) (N := some 39) (v := ?_) (a' := ?_) (bq 12 39) rfl rfl (take_ofW HT_.out HW_.out (by kernel_rfl)) (fun _ _ _ h => h) (Or.inl ⟨by rfl, ?_⟩) hHeld ?_ ?_
   rotate_left
   ·rintro w' ⟨s0, s1, s2, s3, s4, s5, s6, s7⟩
    go_simp
    with_reducible rfl
   rotate_left
   ·simp only [Act.put, List.setIfInBounds_toArray, List.set_cons_zero, List.set_cons_succ, i64_w, i32_w]
    rfl
   refine take_ (i := 6) (N := some 40) (v := ?_) (a' := ?_) (bq 12 103) rfl rfl (take_ofW HT_.out HW_.out (by kernel_rfl)) (fun _ _ _ h => h) (Or.inl ⟨by rfl, ?_⟩) hHeld ?_ ?_
   rotate_left
   ·rintro w' ⟨s0, s1, s2, s3, s4, s5, s6, s7⟩
    go_simp
    with_reducible rfl
   rotate_left
   ·simp only [Act.put, List.setIfInBounds_toArray, List.set_cons_zero, List.set_cons_succ, i64_w, i32_w]
    rfl
   refine take_ (i := 7) (N := some 41) (v := ?_) (a' := ?_) (bq 12 231) rfl rfl (take_ofW HT_.out HW_.out (by kernel_rfl)) (fun _ _ _ h => h) (Or.inl ⟨by rfl, ?_⟩) hHeld ?_ ?_
   rotate_left
   ·rintro w' ⟨s0, s1, s2, s3, s4, s5, s6, s7⟩
    go_simp
    with_reducible rfl
   rotate_left
   ·simp only [Act.put, List.setIfInBounds_toArray, List.set_cons_zero, List.set_cons_succ, i64_w, i32_w]
    rfl
   refine one_ (i := 3) (N := some 37) (bq 12 239) rfl rfl (one_of HT_.out (by kernel_rfl)) (by decide) (fun K hK => ?_)
   refine goes_ Try.func89 (by kernel_rfl) rfl #[.agg #[.int .i64 a2_0, .int .i64 a2_1], .agg #[.int .i64 a3_0, .int .i64 a3_1], .agg #[.int .i64 a0_0, .int .i64 a0_1]] (by rfl) rfl rfl zn6 ?_
   with_reducible refine (impl_turn.calls a2_0 a2_1 a3_0 a3_1 a0_0 a0_1 t264 _ A31.out).mono ?_
   rintro e w37 ⟨rfl, hb⟩
   refine ⟨_, rfl, ?_⟩
   have n0_ := Aside0.mk (blk_below (g := gb255) (o := .cells #[.int .i64 a0_0, .int .i64 a0_1] 86 (0, 0)) zn2 hb)
   have n1_ := Aside0.mk (blk_below (g := gb256) (o := .cells #[.int .i64 a1_0, .int .i64 a1_1] 86 (0, 0)) zn3 hb)
   have n2_ := Aside0.mk (blk_below (g := gb257) (o := .cells #[.int .i64 a2_0, .int .i64 a2_1] 86 (0, 0)) zn4 hb)
   have n3_ := Aside0.mk (blk_below (g := gb258) (o := .cells #[.int .i64 a3_0, .int .i64 a3_1] 86 (0, 0)) zn5 hb)
   have n4_ := Aside0.mk (below_step zn1 hb)
   clear BK255
   clear BK256
   clear BK257
   clear BK258
   clear HB
   have BK255 := n0_
   have BK256 := n1_
   have BK257 := n2_
   have BK258 := n3_
   have HB := n4_
   clear n0_ n1_ n2_ n3_ n4_
   (try clear hb)
   (try clear hb2)
   (try clear hk)
   (try clear hi)
   (try clear hna_)
   (try clear hnb_)
   refine hK.out _ _ ⟨(blk_cell BK257.out 0).trans rfl, (blk_cell BK257.out 1).trans rfl, (blk_cell BK258.out 0).trans rfl, (blk_cell BK258.out 1).trans rfl, (blk_cell BK255.out 0).trans rfl, (blk_cell BK255.out 1).trans rfl, (blk_cell BK256.out 0).trans rfl, (blk_cell BK256.out 1).trans rfl⟩ (fun hHeld => ?_)
   clear hK K
   refine norm_ (a' := ?_) ?_ ?_
   rotate_left
   ·show Act.put _ (some 37) _ = _
    simp only [Act.put, List.setIfInBounds_toArray, List.set_cons_zero, List.set_cons_succ, i64_w, i32_w]
    rfl
   refine one_ (i := 4) (N := some 38) (bq 12 255) rfl rfl (one_of HT_.out (by kernel_rfl)) (by decide) (fun K hK => ?_)
   refine goes_ Try.func88 (by kernel_rfl) rfl #[.int .i64 t264] (by rfl) rfl rfl zn6 ?_
   with_reducible refine (impl_sign.calls t264 t265 _ A32.out).mono ?_
   rintro e w' ⟨rfl, ⟨nd, rfl⟩⟩
   refine ⟨_, rfl, ?_⟩
   refine hK.out _ _ ⟨(blk_cell BK257.out 0).trans rfl, (blk_cell BK257.out 1).trans rfl, (blk_cell BK258.out 0).trans rfl, (blk_cell BK258.out 1).trans rfl, (blk_cell BK255.out 0).trans rfl, (blk_cell BK255.out 1).trans rfl, (blk_cell BK256.out 0).trans rfl, (blk_cell BK256.out 1).trans rfl⟩ (fun hHeld => ?_)
   clear hK K
   refine norm_ (a' := ?_) ?_ ?_
   rotate_left
   ·show Act.put _ (some 38) _ = _
    simp only [Act.put, List.setIfInBounds_toArray, List.set_cons_zero, List.set_cons_succ, i64_w, i32_w]
    rfl
   refine one_ (i := 8) (N := some 42) (bq 12 511) rfl rfl (one_of HT_.out (by kernel_rfl)) (by decide) (fun K hK => ?_)
   refine goes_ Try.func89 (by kernel_rfl) rfl #[.agg #[.int .i64 a2_0, .int .i64 a2_1], .agg #[.int .i64 a3_0, .int .i64 a3_1], .agg #[.int .i64 a1_0, .int .i64 a1_1]] (by rfl) rfl rfl zn6 ?_
   with_reducible refine (impl_turn.calls a2_0 a2_1 a3_0 a3_1 a1_0 a1_1 t266 _ A33.out).mono ?_
   rintro e w38 ⟨rfl, hb⟩
   refine ⟨_, rfl, ?_⟩
   have n0_ := Aside0.mk (blk_below (g := gb255) (o := .cells #[.int .i64 a0_0, .int .i64 a0_1] 86 (0, 0)) zn2 hb)
   have n1_ := Aside0.mk (blk_below (g := gb256) (o := .cells #[.int .i64 a1_0, .int .i64 a1_1] 86 (0, 0)) zn3 hb)
   have n2_ := Aside0.mk (blk_below (g := gb257) (o := .cells #[.int .i64 a2_0, .int .i64 a2_1] 86 (0, 0)) zn4 hb)
   have n3_ := Aside0.mk (blk_below (g := gb258) (o := .cells #[.int .i64 a3_0, .int .i64 a3_1] 86 (0, 0)) zn5 hb)
   have n4_ := Aside0.mk (below_step zn1 hb)
   clear BK255
   clear BK256
   clear BK257
   clear BK258
   clear HB
   have BK255 := n0_
   have BK256 := n1_
   have BK257 := n2_
   have BK258 := n3_
   have HB := n4_
   clear n0_ n1_ n2_ n3_ n4_
   (try clear hb)
   (try clear hb2)
   (try clear hk)
   (try clear hi)
   (try clear hna_)
   (try clear hnb_)
   refine hK.out _ _ ⟨(blk_cell BK257.out 0).trans rfl, (blk_cell BK257.out 1).trans rfl, (blk_cell BK258.out 0).trans rfl, (blk_cell BK258.out 1).trans rfl, (blk_cell BK255.out 0).trans rfl, (blk_cell BK255.out 1).trans rfl, (blk_cell BK256.out 0).trans rfl, (blk_cell BK256.out 1).trans rfl⟩ (fun hHeld => ?_)
   clear hK K
   refine norm_ (a' := ?_) ?_ ?_
   rotate_left
   ·show Act.put _ (some 42) _ = _
    simp only [Act.put, List.setIfInBounds_toArray, List.set_cons_zero, List.set_cons_succ, i64_w, i32_w]
    rfl
   refine one_ (i := 9) (N := some 43) (bq 12 1023) rfl rfl (one_of HT_.out (by kernel_rfl)) (by decide) (fun K hK => ?_)
   refine goes_ Try.func88 (by kernel_rfl) rfl #[.int .i64 t266] (by rfl) rfl rfl zn6 ?_
   with_reducible refine (impl_sign.calls t266 t267 _ A34.out).mono ?_
   rintro e w' ⟨rfl, ⟨nd, rfl⟩⟩
   refine ⟨_, rfl, ?_⟩
   refine hK.out _ _ ⟨(blk_cell BK257.out 0).trans rfl, (blk_cell BK257.out 1).trans rfl, (blk_cell BK258.out 0).trans rfl, (blk_cell BK258.out 1).trans rfl, (blk_cell BK255.out 0).trans rfl, (blk_cell BK255.out 1).trans rfl, (blk_cell BK256.out 0).trans rfl, (blk_cell BK256.out 1).trans rfl⟩ (fun hHeld => ?_)
   clear hK K
   refine norm_ (a' := ?_) ?_ ?_
   rotate_left
   ·show Act.put _ (some 43) _ = _
    simp only [Act.put, List.setIfInBounds_toArray, List.set_cons_zero, List.set_cons_succ, i64_w, i32_w]
    rfl
   refine pure_ (i := 10) (N := some 11) (v := ?_) (a' := ?_) (bq 12 2047) rfl rfl (any_of HT_.out (by kernel_rfl)) (fun _ _ _ h => h) (Or.inl ⟨by rfl, ?_⟩) ?_ ?_
   rotate_left
   ·intro w'
    go_simp
    with_reducible rfl
   rotate_left
   ·simp only [Act.put, List.setIfInBounds_toArray, List.set_cons_zero, List.set_cons_succ, i64_w, i32_w]
    rfl
   refine pure_ (i := 11) (N := some 12) (v := ?_) (a' := ?_) (bq 12 4095) rfl rfl (any_of HT_.out (by kernel_rfl)) (fun _ _ _ h => h) (Or.inl ⟨by rfl, ?_⟩) ?_ ?_
   rotate_left
   ·intro w'
    go_simp
    with_reducible rfl
   rotate_left
   ·simp only [Act.put, List.setIfInBounds_toArray, List.set_cons_zero, List.set_cons_succ, i64_w, i32_w]
    rfl
   refine done_ (done_of HT_.out (by kernel_rfl)) ?_
   go_upto_region 5 with (fail)
   go_cut [61] (fun v61 wc => ∃ (kq : Nat) (x61_34 : Bool), v61 = .bool x61_34 ∧ Aside0 (impl_crosses.j1 kq t260 t262 t265 t267 x61_34 a0_0 a0_1 a1_0 a1_1 a2_0 a2_1 a3_0 a3_1 = some r) ∧ Aside0 (kq ≤ kj8) ∧ Aside0 (wc.heap[gb255]? = some (.cells #[.int .i64 a0_0, .int .i64 a0_1] 86 (0, 0))) ∧ Aside0 (wc.heap[gb256]? = some (.cells #[.int .i64 a1_0, .int .i64 a1_1] 86 (0, 0))) ∧ Aside0 (wc.heap[gb257]? = some (.cells #[.int .i64 a2_0, .int .i64 a2_1] 86 (0, 0))) ∧ Aside0 (wc.heap[gb258]? = some (.cells #[.int .i64 a3_0, .int .i64 a3_1] 86 (0, 0))) ∧ Aside0 (Below w.heap.size w wc))
   case first =>
    have H := HC35.out
    clear HC35
    by_cases c39 : (a0_0 == a2_0 && (a0_1 == a2_1)) = true
    ·rw [if_pos c39] at H
     have c39b0 : (a0_0 == a2_0 && (a0_1 == a2_1)) = true := c39
     (try (have c39b1 : decide (a0_0 = a2_0 && (a0_1 == a2_1)) = true := by simpa using c39))
     (try (have c39b2 : (a0_0 == a2_0 && (a0_1 == a2_1)) = true := by simpa using c39))
     clear c39
     (first | rw [c39b0] | (simp only [i64_w, i32_w]; rw [c39b0]) | skip)
     have H' := Aside0.mk H
     clear H
     have hnb40 := NB255_256.out
     have hnc40 := NB256_255.out
     have hnb41 := NB255_257.out
     have hnc41 := NB257_255.out
     have hnb42 := NB255_258.out
     have hnc42 := NB258_255.out
     have hcz43_0 : w38.cell? ⟨gb255, 0, none⟩ = some (.int .i64 a0_0) := (blk_cell BK255.out 0).trans rfl
     have hcz43_1 : w38.cell? ⟨gb255, 1, none⟩ = some (.int .i64 a0_1) := (blk_cell BK255.out 1).trans rfl
     have hfz43_0 := blk_frozen BK255.out 0
     have hfz43_1 := blk_frozen BK255.out 1
     have hnb44 := NB257_256.out
     have hnc44 := NB256_257.out
     have hnb45 := NB257_258.out
     have hnc45 := NB258_257.out
     have hcz46_0 : w38.cell? ⟨gb257, 0, none⟩ = some (.int .i64 a2_0) := (blk_cell BK257.out 0).trans rfl
     have hcz46_1 : w38.cell? ⟨gb257, 1, none⟩ = some (.int .i64 a2_1) := (blk_cell BK257.out 1).trans rfl
     have hfz46_0 := blk_frozen BK257.out 0
     have hfz46_1 := blk_frozen BK257.out 1
     go_wp2
     go_meet
     case rel => exact ⟨_, (true), zn10, H', ⟨zn13⟩, ⟨zn2⟩, ⟨zn3⟩, ⟨zn4⟩, ⟨zn5⟩, ⟨zn1⟩⟩
    rw [if_neg c39] at H
    have c39b0 : (a0_0 == a2_0 && (a0_1 == a2_1)) = false := by simpa using c39
    (try (have c39b1 : decide (a0_0 = a2_0 && (a0_1 == a2_1)) = false := by simpa using c39))
    (try (have c39b2 : (a0_0 == a2_0 && (a0_1 == a2_1)) = false := by simpa using c39))
    (try (have c39b3 : ¬ (a0_0 = a2_0 && (a0_1 == a2_1)) := by simpa using c39))
    clear c39
    (first | rw [c39b0] | (simp only [i64_w, i32_w]; rw [c39b0]) | skip)
    by_cases c47 : (a0_0 == a3_0 && (a0_1 == a3_1)) = true
    ·rw [if_pos c47] at H
     have c47b0 : (a0_0 == a3_0 && (a0_1 == a3_1)) = true := c47
     (try (have c47b1 : decide (a0_0 = a3_0 && (a0_1 == a3_1)) = true := by simpa using c47))
     (try (have c47b2 : (a0_0 == a3_0 && (a0_1 == a3_1)) = true := by simpa using c47))
     clear c47
     have H' := Aside0.mk H
     clear H
     have hnb48 := NB255_256.out
     have hnc48 := NB256_255.out
     have hnb49 := NB255_257.out
     have hnc49 := NB257_255.out
     have hnb50 := NB255_258.out
     have hnc50 := NB258_255.out
     have hcz51_0 : w38.cell? ⟨gb255, 0, none⟩ = some (.int .i64 a0_0) := (blk_cell BK255.out 0).trans rfl
     have hcz51_1 : w38.cell? ⟨gb255, 1, none⟩ = some (.int .i64 a0_1) := (blk_cell BK255.out 1).trans rfl
     have hfz51_0 := blk_frozen BK255.out 0
     have hfz51_1 := blk_frozen BK255.out 1
     have hnb52 := NB257_256.out
     have hnc52 := NB256_257.out
     have hnb53 := NB257_258.out
     have hnc53 := NB258_257.out
     have hcz54_0 : w38.cell? ⟨gb257, 0, none⟩ = some (.int .i64 a2_0) := (blk_cell BK257.out 0).trans rfl
     have hcz54_1 : w38.cell? ⟨gb257, 1, none⟩ = some (.int .i64 a2_1) := (blk_cell BK257.out 1).trans rfl
     have hfz54_0 := blk_frozen BK257.out 0
     have hfz54_1 := blk_frozen BK257.out 1
     have hnb55 := NB258_256.out
     have hnc55 := NB256_258.out
     have hcz56_0 : w38.cell? ⟨gb258, 0, none⟩ = some (.int .i64 a3_0) := (blk_cell BK258.out 0).trans rfl
     have hcz56_1 : w38.cell? ⟨gb258, 1, none⟩ = some (.int .i64 a3_1) := (blk_cell BK258.out 1).trans rfl
     have hfz56_0 := blk_frozen BK258.out 0
     have hfz56_1 := blk_frozen BK258.out 1
     go_wp2
     go_meet
     case rel => exact ⟨_, (true), zn10, H', ⟨zn13⟩, ⟨zn2⟩, ⟨zn3⟩, ⟨zn4⟩, ⟨zn5⟩, ⟨zn1⟩⟩
    rw [if_neg c47] at H
    have c47b0 : (a0_0 == a3_0 && (a0_1 == a3_1)) = false := by simpa using c47
    (try (have c47b1 : decide (a0_0 = a3_0 && (a0_1 == a3_1)) = false := by simpa using c47))
    (try (have c47b2 : (a0_0 == a3_0 && (a0_1 == a3_1)) = false := by simpa using c47))
    (try (have c47b3 : ¬ (a0_0 = a3_0 && (a0_1 == a3_1)) := by simpa using c47))
    clear c47
    by_cases c57 : (a1_0 == a2_0 && (a1_1 == a2_1)) = true
    ·rw [if_pos c57] at H
     have c57b0 : (a1_0 == a2_0 && (a1_1 == a2_1)) = true := c57
     (try (have c57b1 : decide (a1_0 = a2_0 && (a1_1 == a2_1)) = true := by simpa using c57))
     (try (have c57b2 : (a1_0 == a2_0 && (a1_1 == a2_1)) = true := by simpa using c57))
     clear c57
     have H' := Aside0.mk H
     clear H
     have hnb58 := NB255_256.out
     have hnc58 := NB256_255.out
     have hnb59 := NB255_257.out
     have hnc59 := NB257_255.out
     have hnb60 := NB255_258.out
     have hnc60 := NB258_255.out
     have hcz61_0 : w38.cell? ⟨gb255, 0, none⟩ = some (.int .i64 a0_0) := (blk_cell BK255.out 0).trans rfl
     have hcz61_1 : w38.cell? ⟨gb255, 1, none⟩ = some (.int .i64 a0_1) := (blk_cell BK255.out 1).trans rfl
     have hfz61_0 := blk_frozen BK255.out 0
     have hfz61_1 := blk_frozen BK255.out 1
     have hnb62 := NB257_256.out
     have hnc62 := NB256_257.out
     have hnb63 := NB257_258.out
     have hnc63 := NB258_257.out
     have hcz64_0 : w38.cell? ⟨gb257, 0, none⟩ = some (.int .i64 a2_0) := (blk_cell BK257.out 0).trans rfl
     have hcz64_1 : w38.cell? ⟨gb257, 1, none⟩ = some (.int .i64 a2_1) := (blk_cell BK257.out 1).trans rfl
     have hfz64_0 := blk_frozen BK257.out 0
     have hfz64_1 := blk_frozen BK257.out 1
     have hnb65 := NB258_256.out
     have hnc65 := NB256_258.out
     have hcz66_0 : w38.cell? ⟨gb258, 0, none⟩ = some (.int .i64 a3_0) := (blk_cell BK258.out 0).trans rfl
     have hcz66_1 : w38.cell? ⟨gb258, 1, none⟩ = some (.int .i64 a3_1) := (blk_cell BK258.out 1).trans rfl
     have hfz66_0 := blk_frozen BK258.out 0
     have hfz66_1 := blk_frozen BK258.out 1
     have hcz67_0 : w38.cell? ⟨gb256, 0, none⟩ = some (.int .i64 a1_0) := (blk_cell BK256.out 0).trans rfl
     have hcz67_1 : w38.cell? ⟨gb256, 1, none⟩ = some (.int .i64 a1_1) := (blk_cell BK256.out 1).trans rfl
     have hfz67_0 := blk_frozen BK256.out 0
     have hfz67_1 := blk_frozen BK256.out 1
     go_wp2
     go_meet
     case rel => exact ⟨_, (true), zn10, H', ⟨zn13⟩, ⟨zn2⟩, ⟨zn3⟩, ⟨zn4⟩, ⟨zn5⟩, ⟨zn1⟩⟩
    rw [if_neg c57] at H
    have c57b0 : (a1_0 == a2_0 && (a1_1 == a2_1)) = false := by simpa using c57
    (try (have c57b1 : decide (a1_0 = a2_0 && (a1_1 == a2_1)) = false := by simpa using c57))
    (try (have c57b2 : (a1_0 == a2_0 && (a1_1 == a2_1)) = false := by simpa using c57))
    (try (have c57b3 : ¬ (a1_0 = a2_0 && (a1_1 == a2_1)) := by simpa using c57))
    clear c57
    have H' := Aside0.mk H
    clear H
    have hnb68 := NB255_256.out
    have hnc68 := NB256_255.out
    have hnb69 := NB255_257.out
    have hnc69 := NB257_255.out
    have hnb70 := NB255_258.out
    have hnc70 := NB258_255.out
    have hcz71_0 : w38.cell? ⟨gb255, 0, none⟩ = some (.int .i64 a0_0) := (blk_cell BK255.out 0).trans rfl
    have hcz71_1 : w38.cell? ⟨gb255, 1, none⟩ = some (.int .i64 a0_1) := (blk_cell BK255.out 1).trans rfl
    have hfz71_0 := blk_frozen BK255.out 0
    have hfz71_1 := blk_frozen BK255.out 1
    have hnb72 := NB257_256.out
    have hnc72 := NB256_257.out
    have hnb73 := NB257_258.out
    have hnc73 := NB258_257.out
    have hcz74_0 : w38.cell? ⟨gb257, 0, none⟩ = some (.int .i64 a2_0) := (blk_cell BK257.out 0).trans rfl
    have hcz74_1 : w38.cell? ⟨gb257, 1, none⟩ = some (.int .i64 a2_1) := (blk_cell BK257.out 1).trans rfl
    have hfz74_0 := blk_frozen BK257.out 0
    have hfz74_1 := blk_frozen BK257.out 1
    have hnb75 := NB258_256.out
    have hnc75 := NB256_258.out
    have hcz76_0 : w38.cell? ⟨gb258, 0, none⟩ = some (.int .i64 a3_0) := (blk_cell BK258.out 0).trans rfl
    have hcz76_1 : w38.cell? ⟨gb258, 1, none⟩ = some (.int .i64 a3_1) := (blk_cell BK258.out 1).trans rfl
    have hfz76_0 := blk_frozen BK258.out 0
    have hfz76_1 := blk_frozen BK258.out 1
    have hcz77_0 : w38.cell? ⟨gb256, 0, none⟩ = some (.int .i64 a1_0) := (blk_cell BK256.out 0).trans rfl
    have hcz77_1 : w38.cell? ⟨gb256, 1, none⟩ = some (.int .i64 a1_1) := (blk_cell BK256.out 1).trans rfl
    have hfz77_0 := blk_frozen BK256.out 0
    have hfz77_1 := blk_frozen BK256.out 1
    go_wp2
    go_meet
    case rel => exact ⟨_, ((a1_0 == a3_0 && (a1_1 == a3_1))), zn10, H', ⟨zn13⟩, ⟨zn2⟩, ⟨zn3⟩, ⟨zn4⟩, ⟨zn5⟩, ⟨zn1⟩⟩
   case rest =>
    clear HC35
    try clear c1; try clear c2; try clear p2; try clear c3; try clear c4; try clear c5; try clear c6; try clear c7; try clear c8; try clear c9; try clear c17; try clear c17b0; try clear c17b1; try clear c18; try clear c20; try clear c21; try clear c22; try clear c24; try clear c25; try clear c27; try clear c39; try clear c39b0; try clear c39b1; try clear c39b2; try clear c40; try clear c41; try clear c42; try clear c44; try clear c45; try clear c47; try clear c47b0; try clear c47b1; try clear c47b2; try clear c48; try clear c49; try clear c50; try clear c52; try clear c53; try clear c55; try clear c57
    try clear c57b0; try clear c57b1; try clear c57b2; try clear c58; try clear c59; try clear c60; try clear c62; try clear c63; try clear c65; try clear c68; try clear c69; try clear c70; try clear c72; try clear c73; try clear c75; try clear hcz23_0; try clear hcz23_1; try clear hcz26_0; try clear hcz26_1; try clear hcz28_0; try clear hcz28_1; try clear hcz29_0; try clear hcz29_1; try clear hcz43_0; try clear hcz43_1; try clear hcz46_0; try clear hcz46_1; try clear hcz51_0; try clear hcz51_1; try clear hcz54_0; try clear hcz54_1; try clear hcz56_0; try clear hcz56_1; try clear hcz61_0; try clear hcz61_1
    try clear hcz64_0; try clear hcz64_1; try clear hcz66_0; try clear hcz66_1; try clear hcz67_0; try clear hcz67_1; try clear hcz71_0; try clear hcz71_1; try clear hcz74_0; try clear hcz74_1; try clear hcz76_0; try clear hcz76_1; try clear hcz77_0; try clear hcz77_1; try clear hfz23_0; try clear hfz23_1; try clear hfz26_0; try clear hfz26_1; try clear hfz28_0; try clear hfz28_1; try clear hfz29_0; try clear hfz29_1; try clear hfz43_0; try clear hfz43_1; try clear hfz46_0; try clear hfz46_1; try clear hfz51_0; try clear hfz51_1; try clear hfz54_0; try clear hfz54_1; try clear hfz56_0; try clear hfz56_1
    try clear hfz61_0; try clear hfz61_1; try clear hfz64_0; try clear hfz64_1; try clear hfz66_0; try clear hfz66_1; try clear hfz67_0; try clear hfz67_1; try clear hfz71_0; try clear hfz71_1; try clear hfz74_0; try clear hfz74_1; try clear hfz76_0; try clear hfz76_1; try clear hfz77_0; try clear hfz77_1; try clear p2
    obtain ⟨kq, x61_34, rfl, HA, HJ34, BK255, BK256, BK257, BK258, HB⟩ := hcut
    cases kq with
    | zero => exact absurd HA.out (by simp [impl_crosses.j1])
    | succ kj34 =>
     have H := HA.out
     clear HA
     simp only [impl_crosses.j1] at H
     by_cases c78 : x61_34 = true
     ·subst c78
      have H1 : (some false) = some r := by rw [if_pos rfl] at H; exact H
      clear H
      have H := H1
      clear H1
      obtain rfl := Option.some.inj H
      go_wp2
      go_ret
      exact ⟨zn12, zn1⟩
     replace c78 := Bool.eq_false_iff.mpr c78
     subst c78
     have H1 : (if (wrap64 (t260 * t262)) < 0 then (impl_crosses.j2 kj34 t260 t262 t265 t267 (decide ((wrap64 (t265 * t267)) < 0)) a0_0 a0_1 a1_0 a1_1 a2_0 a2_1 a3_0 a3_1) else (impl_crosses.j2 kj34 t260 t262 t265 t267 false a0_0 a0_1 a1_0 a1_1 a2_0 a2_1 a3_0 a3_1)) = some r := by rw [if_neg (show ¬ (false = true) by decide)] at H; exact H
     clear H
     have H := H1
     clear H1
     have HC79 := Aside0.mk H
     clear H
     go_upto_region 7 with (fail)
     go_cut [71] (fun v71 wc => ∃ (kq : Nat) (x71_78 : Bool), v71 = .bool x71_78 ∧ Aside0 (impl_crosses.j2 kq t260 t262 t265 t267 x71_78 a0_0 a0_1 a1_0 a1_1 a2_0 a2_1 a3_0 a3_1 = some r) ∧ Aside0 (kq ≤ kj34) ∧ Aside0 (wc.heap[gb255]? = some (.cells #[.int .i64 a0_0, .int .i64 a0_1] 86 (0, 0))) ∧ Aside0 (wc.heap[gb256]? = some (.cells #[.int .i64 a1_0, .int .i64 a1_1] 86 (0, 0))) ∧ Aside0 (wc.heap[gb257]? = some (.cells #[.int .i64 a2_0, .int .i64 a2_1] 86 (0, 0))) ∧ Aside0 (wc.heap[gb258]? = some (.cells #[.int .i64 a3_0, .int .i64 a3_1] 86 (0, 0))) ∧ Aside0 (Below w.heap.size w wc))
     case first =>
      have H := HC79.out
      clear HC79
      by_cases c80 : (wrap64 (t260 * t262)) < 0
      ·rw [if_pos c80] at H
       have c80b0 : decide ((wrap64 (t260 * t262)) < 0) = true := decide_eq_true c80
       clear c80
       (first | rw [c80b0] | (simp only [i64_w, i32_w]; rw [c80b0]) | skip)
       have H' := Aside0.mk H
       clear H
       go_wp2
       go_meet
       case rel => exact ⟨_, (decide ((wrap64 (t265 * t267)) < 0)), zn10, H', ⟨by have := HJ8.out; have := HJ34.out; first | omega | exact Nat.le_refl _⟩, ⟨zn2⟩, ⟨zn3⟩, ⟨zn4⟩, ⟨zn5⟩, ⟨zn1⟩⟩
      rw [if_neg c80] at H
      have c80b0 : decide ((wrap64 (t260 * t262)) < 0) = false := decide_eq_false c80
      clear c80
      (first | rw [c80b0] | (simp only [i64_w, i32_w]; rw [c80b0]) | skip)
      have H' := Aside0.mk H
      clear H
      go_wp2
      go_meet
      case rel => exact ⟨_, (false), zn10, H', ⟨by have := HJ8.out; have := HJ34.out; first | omega | exact Nat.le_refl _⟩, ⟨zn2⟩, ⟨zn3⟩, ⟨zn4⟩, ⟨zn5⟩, ⟨zn1⟩⟩
     case rest =>
      clear HC79
      try clear c1; try clear c2; try clear p2; try clear c3; try clear c4; try clear c5; try clear c6; try clear p6; try clear c7; try clear c8; try clear c9; try clear c17; try clear c17b0; try clear c17b1; try clear c18; try clear c20; try clear c21; try clear c22; try clear c24; try clear c25; try clear c27; try clear c39; try clear c39b0; try clear c39b1; try clear c39b2; try clear c40; try clear c41; try clear c42; try clear c44; try clear c45; try clear c47; try clear c47b0; try clear c47b1; try clear c47b2; try clear c48; try clear c49; try clear c50; try clear c52; try clear c53; try clear c55
      try clear c57; try clear c57b0; try clear c57b1; try clear c57b2; try clear c58; try clear c59; try clear c60; try clear c62; try clear c63; try clear p64; try clear c65; try clear c68; try clear c69; try clear c70; try clear c72; try clear c73; try clear c75; try clear c78; try clear c80; try clear c80b0; try clear hcz23_0; try clear hcz23_1; try clear hcz26_0; try clear hcz26_1; try clear hcz28_0; try clear hcz28_1; try clear hcz29_0; try clear hcz29_1; try clear hcz43_0; try clear hcz43_1; try clear hcz46_0; try clear hcz46_1; try clear hcz51_0; try clear hcz51_1; try clear hcz54_0; try clear hcz54_1
      try clear hcz56_0; try clear hcz56_1; try clear hcz61_0; try clear hcz61_1; try clear hcz64_0; try clear hcz64_1; try clear hcz66_0; try clear hcz66_1; try clear hcz67_0; try clear hcz67_1; try clear hcz71_0; try clear hcz71_1; try clear hcz74_0; try clear hcz74_1; try clear hcz76_0; try clear hcz76_1; try clear hcz77_0; try clear hcz77_1; try clear hfz23_0; try clear hfz23_1; try clear hfz26_0; try clear hfz26_1; try clear hfz28_0; try clear hfz28_1; try clear hfz29_0; try clear hfz29_1; try clear hfz43_0; try clear hfz43_1; try clear hfz46_0; try clear hfz46_1; try clear hfz51_0; try clear hfz51_1
      try clear hfz54_0; try clear hfz54_1; try clear hfz56_0; try clear hfz56_1; try clear hfz61_0; try clear hfz61_1; try clear hfz64_0; try clear hfz64_1; try clear hfz66_0; try clear hfz66_1; try clear hfz67_0; try clear hfz67_1; try clear hfz71_0; try clear hfz71_1; try clear hfz74_0; try clear hfz74_1; try clear hfz76_0; try clear hfz76_1; try clear hfz77_0; try clear hfz77_1; try clear p2
      obtain ⟨kq, x71_78, rfl, HA, HJ78, BK255, BK256, BK257, BK258, HB⟩ := hcut
      cases kq with
      | zero => exact absurd HA.out (by simp [impl_crosses.j2])
      | succ kj78 =>
       have H := HA.out
       clear HA
       simp only [impl_crosses.j2] at H
       by_cases c81 : x71_78 = true
       ·subst c81
        have H1 : (some true) = some r := by rw [if_pos rfl] at H; exact H
        clear H
        have H := H1
        clear H1
        obtain rfl := Option.some.inj H
        go_wp2
        go_ret
        exact ⟨zn12, zn1⟩
       replace c81 := Bool.eq_false_iff.mpr c81
       subst c81
       have H1 : (if t260 = 0 then ((impl_between.f a0_0 a0_1 a1_0 a1_1 a2_0 a2_1).bind fun t268 => (if t268 = true then (some true) else (if t262 = 0 then ((impl_between.f a0_0 a0_1 a1_0 a1_1 a3_0 a3_1).bind fun t269 => (if t269 = true then (some true) else (if t265 = 0 then ((impl_between.f a2_0 a2_1 a3_0 a3_1 a0_0 a0_1).bind fun t270 => (if t270 = true then (some true) else (if t267 = 0 then ((impl_between.f a2_0 a2_1 a3_0 a3_1 a1_0 a1_1).bind fun t271 => (some t271)) else (some false)))) else (if t267 = 0 then ((impl_between.f a2_0 a2_1 a3_0 a3_1 a1_0 a1_1).bind fun t272 => (some t272)) else (some false))))) else (if t265 = 0 then ((impl_between.f a2_0 a2_1 a3_0 a3_1 a0_0 a0_1).bind fun t273 => (if t273 = true then (some true) else (if t267 = 0 then ((impl_between.f a2_0 a2_1 a3_0 a3_1 a1_0 a1_1).bind fun t274 => (some t274)) else (some false)))) else (if t267 = 0 then ((impl_between.f a2_0 a2_1 a3_0 a3_1 a1_0 a1_1).bind fun t275 => (some t275)) else (some false)))))) else (if t262 = 0 then ((impl_between.f a0_0 a0_1 a1_0 a1_1 a3_0 a3_1).bind fun t276 => (if t276 = true then (some true) else (if t265 = 0 then ((impl_between.f a2_0 a2_1 a3_0 a3_1 a0_0 a0_1).bind fun t277 => (if t277 = true then (some true) else (if t267 = 0 then ((impl_between.f a2_0 a2_1 a3_0 a3_1 a1_0 a1_1).bind fun t278 => (some t278)) else (some false)))) else (if t267 = 0 then ((impl_between.f a2_0 a2_1 a3_0 a3_1 a1_0 a1_1).bind fun t279 => (some t279)) else (some false))))) else (if t265 = 0 then ((impl_between.f a2_0 a2_1 a3_0 a3_1 a0_0 a0_1).bind fun t280 => (if t280 = true then (some true) else (if t267 = 0 then ((impl_between.f a2_0 a2_1 a3_0 a3_1 a1_0 a1_1).bind fun t281 => (some t281)) else (some false)))) else (if t267 = 0 then ((impl_between.f a2_0 a2_1 a3_0 a3_1 a1_0 a1_1).bind fun t282 => (some t282)) else (some false))))) = some r := by rw [if_neg (show ¬ (false = true) by decide)] at H; exact H
       clear H
       have H := H1
       clear H1
       obtain ⟨b1, hb1⟩ := between_some a0_0 a0_1 a1_0 a1_1 a2_0 a2_1
       obtain ⟨b2, hb2⟩ := between_some a0_0 a0_1 a1_0 a1_1 a3_0 a3_1
       obtain ⟨b3, hb3⟩ := between_some a2_0 a2_1 a3_0 a3_1 a0_0 a0_1
       obtain ⟨b4, hb4⟩ := between_some a2_0 a2_1 a3_0 a3_1 a1_0 a1_1
       have HL : last4 (t260 == 0) b1 (t262 == 0) b2 (t265 == 0) b3 (t267 == 0) b4 = r := by
        rw [hb1, hb2, hb3, hb4] at H
        simp only [Option.bind_some] at H
        unfold last4
        (repeat' split at H) <;> (have H9 := Option.some.inj H; subst H9; simp_all)
       clear H
       have B1 := Aside0.mk hb1
       have B2 := Aside0.mk hb2
       have B3 := Aside0.mk hb3
       have B4 := Aside0.mk hb4
       clear hb1 hb2 hb3 hb4
       obtain ⟨d1, e1⟩ : ∃ d : Bool, (t260 == 0) = d := ⟨_, rfl⟩
       obtain ⟨d2, e2⟩ : ∃ d : Bool, (t262 == 0) = d := ⟨_, rfl⟩
       obtain ⟨d3, e3⟩ : ∃ d : Bool, (t265 == 0) = d := ⟨_, rfl⟩
       obtain ⟨d4, e4⟩ : ∃ d : Bool, (t267 == 0) = d := ⟨_, rfl⟩
       rw [e1, e2, e3, e4] at HL
       subst HL
       rcases ways4 d1 b1 d2 b2 d3 b3 d4 b4 with ⟨rfl, rfl⟩ | ⟨⟨rfl, rfl⟩ | rfl, ⟨rfl, rfl⟩ | ⟨⟨rfl, rfl⟩ | rfl, ⟨rfl, rfl⟩ | ⟨⟨rfl, rfl⟩ | rfl, ⟨rfl, rfl⟩ | ⟨rfl, rfl⟩ | rfl⟩⟩⟩
       all_goals (have hz0_0_ : wc.cell? ⟨gb255, 0, none⟩ = some (.int .i64 a0_0) := (blk_cell BK255.out 0).trans rfl; have hz0_1_ : wc.cell? ⟨gb255, 1, none⟩ = some (.int .i64 a0_1) := (blk_cell BK255.out 1).trans rfl; have hz1_0_ : wc.cell? ⟨gb256, 0, none⟩ = some (.int .i64 a1_0) := (blk_cell BK256.out 0).trans rfl; have hz1_1_ : wc.cell? ⟨gb256, 1, none⟩ = some (.int .i64 a1_1) := (blk_cell BK256.out 1).trans rfl; have hz2_0_ : wc.cell? ⟨gb257, 0, none⟩ = some (.int .i64 a2_0) := (blk_cell BK257.out 0).trans rfl; have hz2_1_ : wc.cell? ⟨gb257, 1, none⟩ = some (.int .i64 a2_1) := (blk_cell BK257.out 1).trans rfl; have hz3_0_ : wc.cell? ⟨gb258, 0, none⟩ = some (.int .i64 a3_0) := (blk_cell BK258.out 0).trans rfl; have hz3_1_ : wc.cell? ⟨gb258, 1, none⟩ = some (.int .i64 a3_1) := (blk_cell BK258.out 1).trans rfl; go_wp2_with (first | (go_at_call 91; (with_reducible refine (impl_between.calls a0_0 a0_1 a1_0 a1_1 a2_0 a2_1 _ _ B1.out).mono ?_); rintro e w94 ⟨rfl, hb⟩; have n0_ := Aside0.mk (blk_below (g := gb255) (o := .cells #[.int .i64 a0_0, .int .i64 a0_1] 86 (0, 0)) zn2 hb); have n1_ := Aside0.mk (blk_below (g := gb256) (o := .cells #[.int .i64 a1_0, .int .i64 a1_1] 86 (0, 0)) zn3 hb); have n2_ := Aside0.mk (blk_below (g := gb257) (o := .cells #[.int .i64 a2_0, .int .i64 a2_1] 86 (0, 0)) zn4 hb); have n3_ := Aside0.mk (blk_below (g := gb258) (o := .cells #[.int .i64 a3_0, .int .i64 a3_1] 86 (0, 0)) zn5 hb); have n4_ := Aside0.mk (below_step zn1 hb); clear BK255; clear BK256; clear BK257; clear BK258; clear HB; have BK255 := n0_; have BK256 := n1_; have BK257 := n2_; have BK258 := n3_; have HB := n4_; clear n0_ n1_ n2_ n3_ n4_; (try clear hb); (try clear hb2); (try clear hk); (try clear hi); (try clear hna_); (try clear hnb_); clear hz0_0_ hz0_1_ hz1_0_ hz1_1_ hz2_0_ hz2_1_ hz3_0_ hz3_1_; have hz0_0_ : w94.cell? ⟨gb255, 0, none⟩ = some (.int .i64 a0_0) := (blk_cell BK255.out 0).trans rfl; have hz0_1_ : w94.cell? ⟨gb255, 1, none⟩ = some (.int .i64 a0_1) := (blk_cell BK255.out 1).trans rfl; have hz1_0_ : w94.cell? ⟨gb256, 0, none⟩ = some (.int .i64 a1_0) := (blk_cell BK256.out 0).trans rfl; have hz1_1_ : w94.cell? ⟨gb256, 1, none⟩ = some (.int .i64 a1_1) := (blk_cell BK256.out 1).trans rfl; have hz2_0_ : w94.cell? ⟨gb257, 0, none⟩ = some (.int .i64 a2_0) := (blk_cell BK257.out 0).trans rfl; have hz2_1_ : w94.cell? ⟨gb257, 1, none⟩ = some (.int .i64 a2_1) := (blk_cell BK257.out 1).trans rfl; have hz3_0_ : w94.cell? ⟨gb258, 0, none⟩ = some (.int .i64 a3_0) := (blk_cell BK258.out 0).trans rfl; have hz3_1_ : w94.cell? ⟨gb258, 1, none⟩ = some (.int .i64 a3_1) := (blk_cell BK258.out 1).trans rfl) | (go_at_call 91; (with_reducible refine (impl_between.calls a0_0 a0_1 a1_0 a1_1 a3_0 a3_1 _ _ B2.out).mono ?_); rintro e w94 ⟨rfl, hb⟩; have n0_ := Aside0.mk (blk_below (g := gb255) (o := .cells #[.int .i64 a0_0, .int .i64 a0_1] 86 (0, 0)) zn2 hb); have n1_ := Aside0.mk (blk_below (g := gb256) (o := .cells #[.int .i64 a1_0, .int .i64 a1_1] 86 (0, 0)) zn3 hb); have n2_ := Aside0.mk (blk_below (g := gb257) (o := .cells #[.int .i64 a2_0, .int .i64 a2_1] 86 (0, 0)) zn4 hb); have n3_ := Aside0.mk (blk_below (g := gb258) (o := .cells #[.int .i64 a3_0, .int .i64 a3_1] 86 (0, 0)) zn5 hb); have n4_ := Aside0.mk (below_step zn1 hb); clear BK255; clear BK256; clear BK257; clear BK258; clear HB; have BK255 := n0_; have BK256 := n1_; have BK257 := n2_; have BK258 := n3_; have HB := n4_; clear n0_ n1_ n2_ n3_ n4_; (try clear hb); (try clear hb2); (try clear hk); (try clear hi); (try clear hna_); (try clear hnb_); clear hz0_0_ hz0_1_ hz1_0_ hz1_1_ hz2_0_ hz2_1_ hz3_0_ hz3_1_; have hz0_0_ : w94.cell? ⟨gb255, 0, none⟩ = some (.int .i64 a0_0) := (blk_cell BK255.out 0).trans rfl; have hz0_1_ : w94.cell? ⟨gb255, 1, none⟩ = some (.int .i64 a0_1) := (blk_cell BK255.out 1).trans rfl; have hz1_0_ : w94.cell? ⟨gb256, 0, none⟩ = some (.int .i64 a1_0) := (blk_cell BK256.out 0).trans rfl; have hz1_1_ : w94.cell? ⟨gb256, 1, none⟩ = some (.int .i64 a1_1) := (blk_cell BK256.out 1).trans rfl; have hz2_0_ : w94.cell? ⟨gb257, 0, none⟩ = some (.int .i64 a2_0) := (blk_cell BK257.out 0).trans rfl; have hz2_1_ : w94.cell? ⟨gb257, 1, none⟩ = some (.int .i64 a2_1) := (blk_cell BK257.out 1).trans rfl; have hz3_0_ : w94.cell? ⟨gb258, 0, none⟩ = some (.int .i64 a3_0) := (blk_cell BK258.out 0).trans rfl; have hz3_1_ : w94.cell? ⟨gb258, 1, none⟩ = some (.int .i64 a3_1) := (blk_cell BK258.out 1).trans rfl) | (go_at_call 91; (with_reducible refine (impl_between.calls a2_0 a2_1 a3_0 a3_1 a0_0 a0_1 _ _ B3.out).mono ?_); rintro e w94 ⟨rfl, hb⟩; have n0_ := Aside0.mk (blk_below (g := gb255) (o := .cells #[.int .i64 a0_0, .int .i64 a0_1] 86 (0, 0)) zn2 hb); have n1_ := Aside0.mk (blk_below (g := gb256) (o := .cells #[.int .i64 a1_0, .int .i64 a1_1] 86 (0, 0)) zn3 hb); have n2_ := Aside0.mk (blk_below (g := gb257) (o := .cells #[.int .i64 a2_0, .int .i64 a2_1] 86 (0, 0)) zn4 hb); have n3_ := Aside0.mk (blk_below (g := gb258) (o := .cells #[.int .i64 a3_0, .int .i64 a3_1] 86 (0, 0)) zn5 hb); have n4_ := Aside0.mk (below_step zn1 hb); clear BK255; clear BK256; clear BK257; clear BK258; clear HB; have BK255 := n0_; have BK256 := n1_; have BK257 := n2_; have BK258 := n3_; have HB := n4_; clear n0_ n1_ n2_ n3_ n4_; (try clear hb); (try clear hb2); (try clear hk); (try clear hi); (try clear hna_); (try clear hnb_); clear hz0_0_ hz0_1_ hz1_0_ hz1_1_ hz2_0_ hz2_1_ hz3_0_ hz3_1_; have hz0_0_ : w94.cell? ⟨gb255, 0, none⟩ = some (.int .i64 a0_0) := (blk_cell BK255.out 0).trans rfl; have hz0_1_ : w94.cell? ⟨gb255, 1, none⟩ = some (.int .i64 a0_1) := (blk_cell BK255.out 1).trans rfl; have hz1_0_ : w94.cell? ⟨gb256, 0, none⟩ = some (.int .i64 a1_0) := (blk_cell BK256.out 0).trans rfl; have hz1_1_ : w94.cell? ⟨gb256, 1, none⟩ = some (.int .i64 a1_1) := (blk_cell BK256.out 1).trans rfl; have hz2_0_ : w94.cell? ⟨gb257, 0, none⟩ = some (.int .i64 a2_0) := (blk_cell BK257.out 0).trans rfl; have hz2_1_ : w94.cell? ⟨gb257, 1, none⟩ = some (.int .i64 a2_1) := (blk_cell BK257.out 1).trans rfl; have hz3_0_ : w94.cell? ⟨gb258, 0, none⟩ = some (.int .i64 a3_0) := (blk_cell BK258.out 0).trans rfl; have hz3_1_ : w94.cell? ⟨gb258, 1, none⟩ = some (.int .i64 a3_1) := (blk_cell BK258.out 1).trans rfl) | (go_at_call 91; (with_reducible refine (impl_between.calls a2_0 a2_1 a3_0 a3_1 a1_0 a1_1 _ _ B4.out).mono ?_); rintro e w94 ⟨rfl, hb⟩; have n0_ := Aside0.mk (blk_below (g := gb255) (o := .cells #[.int .i64 a0_0, .int .i64 a0_1] 86 (0, 0)) zn2 hb); have n1_ := Aside0.mk (blk_below (g := gb256) (o := .cells #[.int .i64 a1_0, .int .i64 a1_1] 86 (0, 0)) zn3 hb); have n2_ := Aside0.mk (blk_below (g := gb257) (o := .cells #[.int .i64 a2_0, .int .i64 a2_1] 86 (0, 0)) zn4 hb); have n3_ := Aside0.mk (blk_below (g := gb258) (o := .cells #[.int .i64 a3_0, .int .i64 a3_1] 86 (0, 0)) zn5 hb); have n4_ := Aside0.mk (below_step zn1 hb); clear BK255; clear BK256; clear BK257; clear BK258; clear HB; have BK255 := n0_; have BK256 := n1_; have BK257 := n2_; have BK258 := n3_; have HB := n4_; clear n0_ n1_ n2_ n3_ n4_; (try clear hb); (try clear hb2); (try clear hk); (try clear hi); (try clear hna_); (try clear hnb_); clear hz0_0_ hz0_1_ hz1_0_ hz1_1_ hz2_0_ hz2_1_ hz3_0_ hz3_1_; have hz0_0_ : w94.cell? ⟨gb255, 0, none⟩ = some (.int .i64 a0_0) := (blk_cell BK255.out 0).trans rfl; have hz0_1_ : w94.cell? ⟨gb255, 1, none⟩ = some (.int .i64 a0_1) := (blk_cell BK255.out 1).trans rfl; have hz1_0_ : w94.cell? ⟨gb256, 0, none⟩ = some (.int .i64 a1_0) := (blk_cell BK256.out 0).trans rfl; have hz1_1_ : w94.cell? ⟨gb256, 1, none⟩ = some (.int .i64 a1_1) := (blk_cell BK256.out 1).trans rfl; have hz2_0_ : w94.cell? ⟨gb257, 0, none⟩ = some (.int .i64 a2_0) := (blk_cell BK257.out 0).trans rfl; have hz2_1_ : w94.cell? ⟨gb257, 1, none⟩ = some (.int .i64 a2_1) := (blk_cell BK257.out 1).trans rfl; have hz3_0_ : w94.cell? ⟨gb258, 0, none⟩ = some (.int .i64 a3_0) := (blk_cell BK258.out 0).trans rfl; have hz3_1_ : w94.cell? ⟨gb258, 1, none⟩ = some (.int .i64 a3_1) := (blk_cell BK258.out 1).trans rfl)); go_ret; exact ⟨by simp [last4], zn1⟩)

end Go.Proofs.Ytemaokhlolimhaa.Q

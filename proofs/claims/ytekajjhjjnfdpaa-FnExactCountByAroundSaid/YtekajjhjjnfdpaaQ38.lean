/- Written by a program of this session: functions of the translation as plain Lean functions, each with a proof that the call does what the plain function says; the conditions stand in each theorem. -/
import Derived.Test.YtekajjhjjnfdpaaQ0
import Derived.Test.YtekajjhjjnfdpaaQ5
namespace Go.Proofs.Ytekajjhjjnfdpaa.Q
open Go.RowKit Go.Proofs.YtekajjhjjnfdpaaW.PrintWords Go.Proofs.YtekajjhjjnfdpaaW.PrintLast Go.Proofs.YtekajjhjjnfdpaaW.PrintMore
attribute [local go_sem] max2_int min2_int max_two min_two max_three min_three max_four min_four   -- for this text's walks alone
set_option linter.unusedVariables false
set_option linter.unusedSimpArgs false

/-! ### spec_arGood: function 108 -/
def spec_arGood.f (a0_0 : Int) (a0_1 : Int) (a0_2 : Bool) (a0_3 : Bool) : Option (Bool) := (spec_l1In.f a0_0 1 12).bind fun t957 => (if t957 = true then ((spec_l1In.f a0_1 1 12).bind fun t958 => (some t958)) else (some false))
set_option maxHeartbeats 8000000 in
set_option maxRecDepth 100000 in
theorem spec_arGood.calls (a0_0 : Int) (a0_1 : Int) (a0_2 : Bool) (a0_3 : Bool) (r : Bool) (w : World) (h : spec_arGood.f a0_0 a0_1 a0_2 a0_3 = some r) :
  Calls Try.prog 108 #[.agg #[.int .i64 a0_0, .int .i64 a0_1, .bool a0_2, .bool a0_3]] w fun e w' => e = .returned (.bool r) ∧ Below w.heap.size w w' := by
 have hu51 := Try.underlying51
 have HB := Aside0.mk (Below.refl w.heap.size w)
 have H : ((spec_l1In.f a0_0 1 12).bind fun t957 => (if t957 = true then ((spec_l1In.f a0_1 1 12).bind fun t958 => (some t958)) else (some false))) = some r := h
 clear h
 replace H := Option.bind_eq_some_iff.mp H
 obtain ⟨t957, A20, H⟩ := H
 replace H : (if t957 = true then ((spec_l1In.f a0_1 1 12).bind fun t958 => (some t958)) else (some false)) = some r := H
 have A2 := Aside0.mk A20
 clear A20
 by_cases c3 : t957 = true
 ·subst c3
  have H1 : ((spec_l1In.f a0_1 1 12).bind fun t958 => (some t958)) = some r := by rw [if_pos rfl] at H; exact H
  clear H
  have H := H1
  clear H1
  replace H := Option.bind_eq_some_iff.mp H
  obtain ⟨t958, A40, H⟩ := H
  replace H : (some t958) = some r := H
  have A4 := Aside0.mk A40
  clear A40
  obtain rfl := Option.some.inj H
  go_enter Try.func108, Try.ntmps108
  go_wp2_with (first | ((with_reducible refine gate_dst (N := 1) rfl ?_); refine box_event ?hg (N := 1) ?hd (cs := #[.int .i64 a0_0, .int .i64 a0_1, .bool a0_2, .bool a0_3]) (t := 51) ?hr ?_; (case hd => rfl); (case hg => rfl); (case hr => first | (go_simp; done) | (go_simp; rfl)); intro gb956 hg w5 hbox hb; have n0_ := Aside0.mk (below_step (by repeat (first | (with_reducible first | exact HB.out | apply below_alloc | apply pw_below_drewN | apply below_drew1) | exact HB.out)) hb); have n1_ := Aside0.mk (hbox); have n2_ := Aside0.mk ((by rw [hg]; exact (below_size (by repeat (first | (with_reducible first | exact HB.out | apply below_alloc | apply pw_below_drewN | apply below_drew1) | exact HB.out))) : w.heap.size ≤ gb956)); have n3_ := Aside0.mk ((by rw [hg]; exact (below_size (by repeat (first | (with_reducible first | exact HB.out | apply below_alloc | apply pw_below_drewN | apply below_drew1) | exact HB.out))) : w.heap.size ≤ gb956)); clear HB; have HB := n0_; have BK956 := n1_; have GW956 := n2_; have GE956 := n3_; clear n0_ n1_ n2_ n3_; clear hb hbox hg; have hcz6_0 : w5.cell? ⟨gb956, 0, none⟩ = some (.int .i64 a0_0) := (blk_cell BK956.out 0).trans rfl; have hcz6_1 : w5.cell? ⟨gb956, 1, none⟩ = some (.int .i64 a0_1) := (blk_cell BK956.out 1).trans rfl; have hcz6_2 : w5.cell? ⟨gb956, 2, none⟩ = some (.bool a0_2) := (blk_cell BK956.out 2).trans rfl; have hcz6_3 : w5.cell? ⟨gb956, 3, none⟩ = some (.bool a0_3) := (blk_cell BK956.out 3).trans rfl; have hfz6_0 := blk_frozen BK956.out 0; have hfz6_1 := blk_frozen BK956.out 1; have hfz6_2 := blk_frozen BK956.out 2; have hfz6_3 := blk_frozen BK956.out 3) | ((with_reducible refine gate_callee (f := 63) rfl ?_); refine goesL_ (some 5) rfl rfl Try.func63 (by kernel_rfl) rfl #[.int .i64 a0_0, .int .i64 1, .int .i64 12] rfl (by (try simp only [List.map_toArray, List.map_cons, List.map_nil]); first | done | rfl | (simp only [List.length_drop, List.length_take]; rfl)) ?_; (with_reducible refine (spec_l1In.calls a0_0 1 12 true _ A2.out).mono ?_); rintro e w' ⟨rfl, ⟨nd, rfl⟩⟩; refine ⟨_, rfl, ?_⟩) | (go_at_call 63; (with_reducible refine (spec_l1In.calls a0_1 1 12 t958 _ A4.out).mono ?_); rintro e w' ⟨rfl, ⟨nd, rfl⟩⟩))
  go_ret
  exact ⟨by first | rfl | (simp [errW_none, errW_some] <;> rfl) | (simp [*, errW_none, errW_some] <;> rfl), by repeat (first | (with_reducible first | exact HB.out | apply below_alloc | apply pw_below_drewN | apply below_drew1 | refine below_set ?_ GE956.out) | exact HB.out)⟩
 ·replace c3 := Bool.eq_false_iff.mpr c3
  subst c3
  have H1 : (some false) = some r := by rw [if_neg (show ¬ (false = true) by decide)] at H; exact H
  clear H
  have H := H1
  clear H1
  obtain rfl := Option.some.inj H
  go_enter Try.func108, Try.ntmps108
  go_wp2_with (first | ((with_reducible refine gate_dst (N := 1) rfl ?_); refine box_event ?hg (N := 1) ?hd (cs := #[.int .i64 a0_0, .int .i64 a0_1, .bool a0_2, .bool a0_3]) (t := 51) ?hr ?_; (case hd => rfl); (case hg => rfl); (case hr => first | (go_simp; done) | (go_simp; rfl)); intro gb956 hg w7 hbox hb; have n0_ := Aside0.mk (below_step (by repeat (first | (with_reducible first | exact HB.out | apply below_alloc | apply pw_below_drewN | apply below_drew1) | exact HB.out)) hb); have n1_ := Aside0.mk (hbox); have n2_ := Aside0.mk ((by rw [hg]; exact (below_size (by repeat (first | (with_reducible first | exact HB.out | apply below_alloc | apply pw_below_drewN | apply below_drew1) | exact HB.out))) : w.heap.size ≤ gb956)); have n3_ := Aside0.mk ((by rw [hg]; exact (below_size (by repeat (first | (with_reducible first | exact HB.out | apply below_alloc | apply pw_below_drewN | apply below_drew1) | exact HB.out))) : w.heap.size ≤ gb956)); clear HB; have HB := n0_; have BK956 := n1_; have GW956 := n2_; have GE956 := n3_; clear n0_ n1_ n2_ n3_; clear hb hbox hg; have hcz8_0 : w7.cell? ⟨gb956, 0, none⟩ = some (.int .i64 a0_0) := (blk_cell BK956.out 0).trans rfl; have hcz8_1 : w7.cell? ⟨gb956, 1, none⟩ = some (.int .i64 a0_1) := (blk_cell BK956.out 1).trans rfl; have hcz8_2 : w7.cell? ⟨gb956, 2, none⟩ = some (.bool a0_2) := (blk_cell BK956.out 2).trans rfl; have hcz8_3 : w7.cell? ⟨gb956, 3, none⟩ = some (.bool a0_3) := (blk_cell BK956.out 3).trans rfl; have hfz8_0 := blk_frozen BK956.out 0; have hfz8_1 := blk_frozen BK956.out 1; have hfz8_2 := blk_frozen BK956.out 2; have hfz8_3 := blk_frozen BK956.out 3) | ((with_reducible refine gate_callee (f := 63) rfl ?_); refine goesL_ (some 5) rfl rfl Try.func63 (by kernel_rfl) rfl #[.int .i64 a0_0, .int .i64 1, .int .i64 12] rfl (by (try simp only [List.map_toArray, List.map_cons, List.map_nil]); first | done | rfl | (simp only [List.length_drop, List.length_take]; rfl)) ?_; (with_reducible refine (spec_l1In.calls a0_0 1 12 false _ A2.out).mono ?_); rintro e w' ⟨rfl, ⟨nd, rfl⟩⟩; refine ⟨_, rfl, ?_⟩))
  go_ret
  exact ⟨by first | rfl | (simp [errW_none, errW_some] <;> rfl) | (simp [*, errW_none, errW_some] <;> rfl), by repeat (first | (with_reducible first | exact HB.out | apply below_alloc | apply pw_below_drewN | apply below_drew1 | refine below_set ?_ GE956.out) | exact HB.out)⟩

/-! ### spec_arTwo: function 76 -/
def spec_arTwo.f (a0_0 : Int) (a0_1 : Int) (a0_2 : Bool) (a0_3 : Bool) (a1_0 : Int) (a1_1 : Int) : Option (Bool) := (spec_arGood.f a0_0 a0_1 a0_2 a0_3).bind fun t961 => (if t961 = true then ((spec_boLeaper.f a1_0 a1_1).bind fun t962 => (some t962)) else (some false))
set_option maxHeartbeats 8000000 in
set_option maxRecDepth 100000 in
theorem spec_arTwo.calls (a0_0 : Int) (a0_1 : Int) (a0_2 : Bool) (a0_3 : Bool) (a1_0 : Int) (a1_1 : Int) (r : Bool) (w : World) (h : spec_arTwo.f a0_0 a0_1 a0_2 a0_3 a1_0 a1_1 = some r) :
  Calls Try.prog 76 #[.agg #[.int .i64 a0_0, .int .i64 a0_1, .bool a0_2, .bool a0_3], .agg #[.int .i64 a1_0, .int .i64 a1_1]] w fun e w' => e = .returned (.bool r) ∧ Below w.heap.size w w' := by
 have hu51 := Try.underlying51
 have hu32 := Try.underlying32
 have HB := Aside0.mk (Below.refl w.heap.size w)
 have H : ((spec_arGood.f a0_0 a0_1 a0_2 a0_3).bind fun t961 => (if t961 = true then ((spec_boLeaper.f a1_0 a1_1).bind fun t962 => (some t962)) else (some false))) = some r := h
 clear h
 replace H := Option.bind_eq_some_iff.mp H
 obtain ⟨t961, A30, H⟩ := H
 replace H : (if t961 = true then ((spec_boLeaper.f a1_0 a1_1).bind fun t962 => (some t962)) else (some false)) = some r := H
 have A3 := Aside0.mk A30
 clear A30
 by_cases c4 : t961 = true
 ·subst c4
  have H1 : ((spec_boLeaper.f a1_0 a1_1).bind fun t962 => (some t962)) = some r := by rw [if_pos rfl] at H; exact H
  clear H
  have H := H1
  clear H1
  replace H := Option.bind_eq_some_iff.mp H
  obtain ⟨t962, A50, H⟩ := H
  replace H : (some t962) = some r := H
  have A5 := Aside0.mk A50
  clear A50
  obtain rfl := Option.some.inj H
  go_enter Try.func76, Try.ntmps76
  go_wp2_with (first | ((with_reducible refine gate_dst (N := 2) rfl ?_); refine box_event ?hg (N := 2) ?hd (cs := #[.int .i64 a0_0, .int .i64 a0_1, .bool a0_2, .bool a0_3]) (t := 51) ?hr ?_; (case hd => rfl); (case hg => rfl); (case hr => first | (go_simp; done) | (go_simp; rfl)); intro gb959 hg w6 hbox hb; have n0_ := Aside0.mk (below_step (by repeat (first | (with_reducible first | exact HB.out | apply below_alloc | apply pw_below_drewN | apply below_drew1) | exact HB.out)) hb); have n1_ := Aside0.mk (hbox); have n2_ := Aside0.mk ((by rw [hg]; exact (below_size (by repeat (first | (with_reducible first | exact HB.out | apply below_alloc | apply pw_below_drewN | apply below_drew1) | exact HB.out))) : w.heap.size ≤ gb959)); have n3_ := Aside0.mk ((by rw [hg]; exact (below_size (by repeat (first | (with_reducible first | exact HB.out | apply below_alloc | apply pw_below_drewN | apply below_drew1) | exact HB.out))) : w.heap.size ≤ gb959)); clear HB; have HB := n0_; have BK959 := n1_; have GW959 := n2_; have GE959 := n3_; clear n0_ n1_ n2_ n3_; clear hb hbox hg) | ((with_reducible refine gate_dst (N := 3) rfl ?_); refine box_event ?hg (N := 3) ?hd (cs := #[.int .i64 a1_0, .int .i64 a1_1]) (t := 32) ?hr ?_; (case hd => rfl); (case hg => rfl); (case hr => first | (go_simp; done) | (go_simp; rfl)); intro gb960 hg w7 hbox hb; have n0_ := Aside0.mk (blk_below (g := gb959) (o := .cells #[.int .i64 a0_0, .int .i64 a0_1, .bool a0_2, .bool a0_3] 51 (0, 0)) (by (with_reducible repeat (first | refine blk_drewN ?_ _ | refine blk_drew ?_ | refine blk_alloc ?_ _)); exact BK959.out) hb); have n1_ := Aside0.mk (below_step (by repeat (first | (with_reducible first | exact HB.out | apply below_alloc | apply pw_below_drewN | apply below_drew1 | refine below_set ?_ GE959.out) | exact HB.out)) hb); have n2_ := Aside0.mk (hbox); have n3_ := Aside0.mk ((by rw [hg]; exact (below_size (by repeat (first | (with_reducible first | exact HB.out | apply below_alloc | apply pw_below_drewN | apply below_drew1 | refine below_set ?_ GE959.out) | exact HB.out))) : w.heap.size ≤ gb960)); have n4_ := Aside0.mk ((by rw [hg]; exact (below_size (by repeat (first | (with_reducible first | exact HB.out | apply below_alloc | apply pw_below_drewN | apply below_drew1 | refine below_set ?_ GE959.out) | exact HB.out))) : w.heap.size ≤ gb960)); have n5_ := Aside0.mk ((by rw [hg]; exact Nat.ne_of_lt (blk_lt (g := gb959) (o := .cells #[.int .i64 a0_0, .int .i64 a0_1, .bool a0_2, .bool a0_3] 51 (0, 0)) (by (with_reducible repeat (first | refine blk_drewN ?_ _ | refine blk_drew ?_ | refine blk_alloc ?_ _)); exact BK959.out)) : gb959 ≠ gb960)); have n6_ := Aside0.mk ((by rw [hg]; exact Nat.ne_of_gt (blk_lt (g := gb959) (o := .cells #[.int .i64 a0_0, .int .i64 a0_1, .bool a0_2, .bool a0_3] 51 (0, 0)) (by (with_reducible repeat (first | refine blk_drewN ?_ _ | refine blk_drew ?_ | refine blk_alloc ?_ _)); exact BK959.out)) : gb960 ≠ gb959)); clear BK959; clear HB; have BK959 := n0_; have HB := n1_; have BK960 := n2_; have GW960 := n3_; have GE960 := n4_; have NB959_960 := n5_; have NB960_959 := n6_; clear n0_ n1_ n2_ n3_ n4_ n5_ n6_; clear hb hbox hg; have hnb8 := NB959_960.out; have hnc8 := NB960_959.out; have hcz9_0 : w7.cell? ⟨gb959, 0, none⟩ = some (.int .i64 a0_0) := (blk_cell BK959.out 0).trans rfl; have hcz9_1 : w7.cell? ⟨gb959, 1, none⟩ = some (.int .i64 a0_1) := (blk_cell BK959.out 1).trans rfl; have hcz9_2 : w7.cell? ⟨gb959, 2, none⟩ = some (.bool a0_2) := (blk_cell BK959.out 2).trans rfl; have hcz9_3 : w7.cell? ⟨gb959, 3, none⟩ = some (.bool a0_3) := (blk_cell BK959.out 3).trans rfl; have hfz9_0 := blk_frozen BK959.out 0; have hfz9_1 := blk_frozen BK959.out 1; have hfz9_2 := blk_frozen BK959.out 2; have hfz9_3 := blk_frozen BK959.out 3) | ((with_reducible refine gate_callee (f := 108) rfl ?_); refine goesL_ (some 6) rfl rfl Try.func108 (by kernel_rfl) rfl #[.agg #[.int .i64 a0_0, .int .i64 a0_1, .bool a0_2, .bool a0_3]] rfl (by (try simp only [List.map_toArray, List.map_cons, List.map_nil]); first | done | rfl | (simp only [List.length_drop, List.length_take]; rfl)) ?_; (with_reducible refine (spec_arGood.calls a0_0 a0_1 a0_2 a0_3 true _ A3.out).mono ?_); rintro e w10 ⟨rfl, hb⟩; refine ⟨_, rfl, ?_⟩; have n0_ := Aside0.mk (blk_below (g := gb959) (o := .cells #[.int .i64 a0_0, .int .i64 a0_1, .bool a0_2, .bool a0_3] 51 (0, 0)) (by (with_reducible repeat (first | refine blk_drewN ?_ _ | refine blk_drew ?_ | refine blk_alloc ?_ _)); exact BK959.out) hb); have n1_ := Aside0.mk (blk_below (g := gb960) (o := .cells #[.int .i64 a1_0, .int .i64 a1_1] 32 (0, 0)) (by (with_reducible repeat (first | refine blk_drewN ?_ _ | refine blk_drew ?_ | refine blk_alloc ?_ _)); exact BK960.out) hb); have n2_ := Aside0.mk (below_step (by repeat (first | (with_reducible first | exact HB.out | apply below_alloc | apply pw_below_drewN | apply below_drew1 | refine below_set ?_ GE959.out | refine below_set ?_ GE960.out) | exact HB.out)) hb); clear BK959; clear BK960; clear HB; have BK959 := n0_; have BK960 := n1_; have HB := n2_; clear n0_ n1_ n2_; (try clear hb); (try clear hb2); (try clear hk); (try clear hi); (try clear hna_); (try clear hnb_); have hcz11_0 : w10.cell? ⟨gb960, 0, none⟩ = some (.int .i64 a1_0) := (blk_cell BK960.out 0).trans rfl; have hcz11_1 : w10.cell? ⟨gb960, 1, none⟩ = some (.int .i64 a1_1) := (blk_cell BK960.out 1).trans rfl; have hfz11_0 := blk_frozen BK960.out 0; have hfz11_1 := blk_frozen BK960.out 1) | (go_at_call 91; (with_reducible refine (spec_boLeaper.calls a1_0 a1_1 t962 _ A5.out).mono ?_); rintro e w12 ⟨rfl, hb⟩; have n0_ := Aside0.mk (blk_below (g := gb959) (o := .cells #[.int .i64 a0_0, .int .i64 a0_1, .bool a0_2, .bool a0_3] 51 (0, 0)) (by (with_reducible repeat (first | refine blk_drewN ?_ _ | refine blk_drew ?_ | refine blk_alloc ?_ _)); exact BK959.out) hb); have n1_ := Aside0.mk (blk_below (g := gb960) (o := .cells #[.int .i64 a1_0, .int .i64 a1_1] 32 (0, 0)) (by (with_reducible repeat (first | refine blk_drewN ?_ _ | refine blk_drew ?_ | refine blk_alloc ?_ _)); exact BK960.out) hb); have n2_ := Aside0.mk (below_step (by repeat (first | (with_reducible first | exact HB.out | apply below_alloc | apply pw_below_drewN | apply below_drew1 | refine below_set ?_ GE959.out | refine below_set ?_ GE960.out) | exact HB.out)) hb); clear BK959; clear BK960; clear HB; have BK959 := n0_; have BK960 := n1_; have HB := n2_; clear n0_ n1_ n2_; (try clear hb); (try clear hb2); (try clear hk); (try clear hi); (try clear hna_); (try clear hnb_)))
  go_ret
  exact ⟨by first | rfl | (simp [errW_none, errW_some] <;> rfl) | (simp [*, errW_none, errW_some] <;> rfl), by repeat (first | (with_reducible first | exact HB.out | apply below_alloc | apply pw_below_drewN | apply below_drew1 | refine below_set ?_ GE959.out | refine below_set ?_ GE960.out) | exact HB.out)⟩
 ·replace c4 := Bool.eq_false_iff.mpr c4
  subst c4
  have H1 : (some false) = some r := by rw [if_neg (show ¬ (false = true) by decide)] at H; exact H
  clear H
  have H := H1
  clear H1
  obtain rfl := Option.some.inj H
  go_enter Try.func76, Try.ntmps76
  go_wp2_with (first | ((with_reducible refine gate_dst (N := 2) rfl ?_); refine box_event ?hg (N := 2) ?hd (cs := #[.int .i64 a0_0, .int .i64 a0_1, .bool a0_2, .bool a0_3]) (t := 51) ?hr ?_; (case hd => rfl); (case hg => rfl); (case hr => first | (go_simp; done) | (go_simp; rfl)); intro gb959 hg w13 hbox hb; have n0_ := Aside0.mk (below_step (by repeat (first | (with_reducible first | exact HB.out | apply below_alloc | apply pw_below_drewN | apply below_drew1) | exact HB.out)) hb); have n1_ := Aside0.mk (hbox); have n2_ := Aside0.mk ((by rw [hg]; exact (below_size (by repeat (first | (with_reducible first | exact HB.out | apply below_alloc | apply pw_below_drewN | apply below_drew1) | exact HB.out))) : w.heap.size ≤ gb959)); have n3_ := Aside0.mk ((by rw [hg]; exact (below_size (by repeat (first | (with_reducible first | exact HB.out | apply below_alloc | apply pw_below_drewN | apply below_drew1) | exact HB.out))) : w.heap.size ≤ gb959)); clear HB; have HB := n0_; have BK959 := n1_; have GW959 := n2_; have GE959 := n3_; clear n0_ n1_ n2_ n3_; clear hb hbox hg) | ((with_reducible refine gate_dst (N := 3) rfl ?_); refine box_event ?hg (N := 3) ?hd (cs := #[.int .i64 a1_0, .int .i64 a1_1]) (t := 32) ?hr ?_; (case hd => rfl); (case hg => rfl); (case hr => first | (go_simp; done) | (go_simp; rfl)); intro gb960 hg w14 hbox hb; have n0_ := Aside0.mk (blk_below (g := gb959) (o := .cells #[.int .i64 a0_0, .int .i64 a0_1, .bool a0_2, .bool a0_3] 51 (0, 0)) (by (with_reducible repeat (first | refine blk_drewN ?_ _ | refine blk_drew ?_ | refine blk_alloc ?_ _)); exact BK959.out) hb); have n1_ := Aside0.mk (below_step (by repeat (first | (with_reducible first | exact HB.out | apply below_alloc | apply pw_below_drewN | apply below_drew1 | refine below_set ?_ GE959.out) | exact HB.out)) hb); have n2_ := Aside0.mk (hbox); have n3_ := Aside0.mk ((by rw [hg]; exact (below_size (by repeat (first | (with_reducible first | exact HB.out | apply below_alloc | apply pw_below_drewN | apply below_drew1 | refine below_set ?_ GE959.out) | exact HB.out))) : w.heap.size ≤ gb960)); have n4_ := Aside0.mk ((by rw [hg]; exact (below_size (by repeat (first | (with_reducible first | exact HB.out | apply below_alloc | apply pw_below_drewN | apply below_drew1 | refine below_set ?_ GE959.out) | exact HB.out))) : w.heap.size ≤ gb960)); have n5_ := Aside0.mk ((by rw [hg]; exact Nat.ne_of_lt (blk_lt (g := gb959) (o := .cells #[.int .i64 a0_0, .int .i64 a0_1, .bool a0_2, .bool a0_3] 51 (0, 0)) (by (with_reducible repeat (first | refine blk_drewN ?_ _ | refine blk_drew ?_ | refine blk_alloc ?_ _)); exact BK959.out)) : gb959 ≠ gb960)); have n6_ := Aside0.mk ((by rw [hg]; exact Nat.ne_of_gt (blk_lt (g := gb959) (o := .cells #[.int .i64 a0_0, .int .i64 a0_1, .bool a0_2, .bool a0_3] 51 (0, 0)) (by (with_reducible repeat (first | refine blk_drewN ?_ _ | refine blk_drew ?_ | refine blk_alloc ?_ _)); exact BK959.out)) : gb960 ≠ gb959)); clear BK959; clear HB; have BK959 := n0_; have HB := n1_; have BK960 := n2_; have GW960 := n3_; have GE960 := n4_; have NB959_960 := n5_; have NB960_959 := n6_; clear n0_ n1_ n2_ n3_ n4_ n5_ n6_; clear hb hbox hg; have hnb15 := NB959_960.out; have hnc15 := NB960_959.out; have hcz16_0 : w14.cell? ⟨gb959, 0, none⟩ = some (.int .i64 a0_0) := (blk_cell BK959.out 0).trans rfl; have hcz16_1 : w14.cell? ⟨gb959, 1, none⟩ = some (.int .i64 a0_1) := (blk_cell BK959.out 1).trans rfl; have hcz16_2 : w14.cell? ⟨gb959, 2, none⟩ = some (.bool a0_2) := (blk_cell BK959.out 2).trans rfl; have hcz16_3 : w14.cell? ⟨gb959, 3, none⟩ = some (.bool a0_3) := (blk_cell BK959.out 3).trans rfl; have hfz16_0 := blk_frozen BK959.out 0; have hfz16_1 := blk_frozen BK959.out 1; have hfz16_2 := blk_frozen BK959.out 2; have hfz16_3 := blk_frozen BK959.out 3) | ((with_reducible refine gate_callee (f := 108) rfl ?_); refine goesL_ (some 6) rfl rfl Try.func108 (by kernel_rfl) rfl #[.agg #[.int .i64 a0_0, .int .i64 a0_1, .bool a0_2, .bool a0_3]] rfl (by (try simp only [List.map_toArray, List.map_cons, List.map_nil]); first | done | rfl | (simp only [List.length_drop, List.length_take]; rfl)) ?_; (with_reducible refine (spec_arGood.calls a0_0 a0_1 a0_2 a0_3 false _ A3.out).mono ?_); rintro e w17 ⟨rfl, hb⟩; refine ⟨_, rfl, ?_⟩; have n0_ := Aside0.mk (blk_below (g := gb959) (o := .cells #[.int .i64 a0_0, .int .i64 a0_1, .bool a0_2, .bool a0_3] 51 (0, 0)) (by (with_reducible repeat (first | refine blk_drewN ?_ _ | refine blk_drew ?_ | refine blk_alloc ?_ _)); exact BK959.out) hb); have n1_ := Aside0.mk (blk_below (g := gb960) (o := .cells #[.int .i64 a1_0, .int .i64 a1_1] 32 (0, 0)) (by (with_reducible repeat (first | refine blk_drewN ?_ _ | refine blk_drew ?_ | refine blk_alloc ?_ _)); exact BK960.out) hb); have n2_ := Aside0.mk (below_step (by repeat (first | (with_reducible first | exact HB.out | apply below_alloc | apply pw_below_drewN | apply below_drew1 | refine below_set ?_ GE959.out | refine below_set ?_ GE960.out) | exact HB.out)) hb); clear BK959; clear BK960; clear HB; have BK959 := n0_; have BK960 := n1_; have HB := n2_; clear n0_ n1_ n2_; (try clear hb); (try clear hb2); (try clear hk); (try clear hi); (try clear hna_); (try clear hnb_)))
  go_ret
  exact ⟨by first | rfl | (simp [errW_none, errW_some] <;> rfl) | (simp [*, errW_none, errW_some] <;> rfl), by repeat (first | (with_reducible first | exact HB.out | apply below_alloc | apply pw_below_drewN | apply below_drew1 | refine below_set ?_ GE959.out | refine below_set ?_ GE960.out) | exact HB.out)⟩

/-! ### spec_arCell: function 77 -/
def spec_arCell.f (a0_0 : Int) (a0_1 : Int) (a0_2 : Bool) (a0_3 : Bool) (a1 : Int) : Option (Bool) := (spec_arGood.f a0_0 a0_1 a0_2 a0_3).bind fun t964 => (if t964 = true then ((spec_l1In.f a1 0 (wrap64 ((wrap64 (a0_0 * a0_1)) - 1))).bind fun t965 => (some t965)) else (some false))
set_option maxHeartbeats 8000000 in
set_option maxRecDepth 100000 in
theorem spec_arCell.calls (a0_0 : Int) (a0_1 : Int) (a0_2 : Bool) (a0_3 : Bool) (a1 : Int) (r : Bool) (w : World) (h : spec_arCell.f a0_0 a0_1 a0_2 a0_3 a1 = some r) :
  Calls Try.prog 77 #[.agg #[.int .i64 a0_0, .int .i64 a0_1, .bool a0_2, .bool a0_3], .int .i64 a1] w fun e w' => e = .returned (.bool r) ∧ Below w.heap.size w w' := by
 have hu51 := Try.underlying51
 have HB := Aside0.mk (Below.refl w.heap.size w)
 have H : ((spec_arGood.f a0_0 a0_1 a0_2 a0_3).bind fun t964 => (if t964 = true then ((spec_l1In.f a1 0 (wrap64 ((wrap64 (a0_0 * a0_1)) - 1))).bind fun t965 => (some t965)) else (some false))) = some r := h
 clear h
 replace H := Option.bind_eq_some_iff.mp H
 obtain ⟨t964, A30, H⟩ := H
 replace H : (if t964 = true then ((spec_l1In.f a1 0 (wrap64 ((wrap64 (a0_0 * a0_1)) - 1))).bind fun t965 => (some t965)) else (some false)) = some r := H
 have A3 := Aside0.mk A30
 clear A30
 by_cases c4 : t964 = true
 ·subst c4
  have H1 : ((spec_l1In.f a1 0 (wrap64 ((wrap64 (a0_0 * a0_1)) - 1))).bind fun t965 => (some t965)) = some r := by rw [if_pos rfl] at H; exact H
  clear H
  have H := H1
  clear H1
  replace H := Option.bind_eq_some_iff.mp H
  obtain ⟨t965, A50, H⟩ := H
  replace H : (some t965) = some r := H
  have A5 := Aside0.mk A50
  clear A50
  obtain rfl := Option.some.inj H
  go_enter Try.func77, Try.ntmps77
  go_wp2_with (first | ((with_reducible refine gate_dst (N := 2) rfl ?_); refine box_event ?hg (N := 2) ?hd (cs := #[.int .i64 a0_0, .int .i64 a0_1, .bool a0_2, .bool a0_3]) (t := 51) ?hr ?_; (case hd => rfl); (case hg => rfl); (case hr => first | (go_simp; done) | (go_simp; rfl)); intro gb963 hg w6 hbox hb; have n0_ := Aside0.mk (below_step (by repeat (first | (with_reducible first | exact HB.out | apply below_alloc | apply pw_below_drewN | apply below_drew1) | exact HB.out)) hb); have n1_ := Aside0.mk (hbox); have n2_ := Aside0.mk ((by rw [hg]; exact (below_size (by repeat (first | (with_reducible first | exact HB.out | apply below_alloc | apply pw_below_drewN | apply below_drew1) | exact HB.out))) : w.heap.size ≤ gb963)); have n3_ := Aside0.mk ((by rw [hg]; exact (below_size (by repeat (first | (with_reducible first | exact HB.out | apply below_alloc | apply pw_below_drewN | apply below_drew1) | exact HB.out))) : w.heap.size ≤ gb963)); clear HB; have HB := n0_; have BK963 := n1_; have GW963 := n2_; have GE963 := n3_; clear n0_ n1_ n2_ n3_; clear hb hbox hg; have hcz7_0 : w6.cell? ⟨gb963, 0, none⟩ = some (.int .i64 a0_0) := (blk_cell BK963.out 0).trans rfl; have hcz7_1 : w6.cell? ⟨gb963, 1, none⟩ = some (.int .i64 a0_1) := (blk_cell BK963.out 1).trans rfl; have hcz7_2 : w6.cell? ⟨gb963, 2, none⟩ = some (.bool a0_2) := (blk_cell BK963.out 2).trans rfl; have hcz7_3 : w6.cell? ⟨gb963, 3, none⟩ = some (.bool a0_3) := (blk_cell BK963.out 3).trans rfl; have hfz7_0 := blk_frozen BK963.out 0; have hfz7_1 := blk_frozen BK963.out 1; have hfz7_2 := blk_frozen BK963.out 2; have hfz7_3 := blk_frozen BK963.out 3) | ((with_reducible refine gate_callee (f := 108) rfl ?_); refine goesL_ (some 6) rfl rfl Try.func108 (by kernel_rfl) rfl #[.agg #[.int .i64 a0_0, .int .i64 a0_1, .bool a0_2, .bool a0_3]] rfl (by (try simp only [List.map_toArray, List.map_cons, List.map_nil]); first | done | rfl | (simp only [List.length_drop, List.length_take]; rfl)) ?_; (with_reducible refine (spec_arGood.calls a0_0 a0_1 a0_2 a0_3 true _ A3.out).mono ?_); rintro e w8 ⟨rfl, hb⟩; refine ⟨_, rfl, ?_⟩; have n0_ := Aside0.mk (blk_below (g := gb963) (o := .cells #[.int .i64 a0_0, .int .i64 a0_1, .bool a0_2, .bool a0_3] 51 (0, 0)) (by (with_reducible repeat (first | refine blk_drewN ?_ _ | refine blk_drew ?_ | refine blk_alloc ?_ _)); exact BK963.out) hb); have n1_ := Aside0.mk (below_step (by repeat (first | (with_reducible first | exact HB.out | apply below_alloc | apply pw_below_drewN | apply below_drew1 | refine below_set ?_ GE963.out) | exact HB.out)) hb); clear BK963; clear HB; have BK963 := n0_; have HB := n1_; clear n0_ n1_; (try clear hb); (try clear hb2); (try clear hk); (try clear hi); (try clear hna_); (try clear hnb_); have hcz9_0 : w8.cell? ⟨gb963, 0, none⟩ = some (.int .i64 a0_0) := (blk_cell BK963.out 0).trans rfl; have hcz9_1 : w8.cell? ⟨gb963, 1, none⟩ = some (.int .i64 a0_1) := (blk_cell BK963.out 1).trans rfl; have hcz9_2 : w8.cell? ⟨gb963, 2, none⟩ = some (.bool a0_2) := (blk_cell BK963.out 2).trans rfl; have hcz9_3 : w8.cell? ⟨gb963, 3, none⟩ = some (.bool a0_3) := (blk_cell BK963.out 3).trans rfl; have hfz9_0 := blk_frozen BK963.out 0; have hfz9_1 := blk_frozen BK963.out 1; have hfz9_2 := blk_frozen BK963.out 2; have hfz9_3 := blk_frozen BK963.out 3) | (go_at_call 63; (with_reducible refine (spec_l1In.calls a1 0 (wrap64 ((wrap64 (a0_0 * a0_1)) - 1)) t965 _ A5.out).mono ?_); rintro e w' ⟨rfl, ⟨nd, rfl⟩⟩))
  go_ret
  exact ⟨by first | rfl | (simp [errW_none, errW_some] <;> rfl) | (simp [*, errW_none, errW_some] <;> rfl), by repeat (first | (with_reducible first | exact HB.out | apply below_alloc | apply pw_below_drewN | apply below_drew1 | refine below_set ?_ GE963.out) | exact HB.out)⟩
 ·replace c4 := Bool.eq_false_iff.mpr c4
  subst c4
  have H1 : (some false) = some r := by rw [if_neg (show ¬ (false = true) by decide)] at H; exact H
  clear H
  have H := H1
  clear H1
  obtain rfl := Option.some.inj H
  go_enter Try.func77, Try.ntmps77
  go_wp2_with (first | ((with_reducible refine gate_dst (N := 2) rfl ?_); refine box_event ?hg (N := 2) ?hd (cs := #[.int .i64 a0_0, .int .i64 a0_1, .bool a0_2, .bool a0_3]) (t := 51) ?hr ?_; (case hd => rfl); (case hg => rfl); (case hr => first | (go_simp; done) | (go_simp; rfl)); intro gb963 hg w10 hbox hb; have n0_ := Aside0.mk (below_step (by repeat (first | (with_reducible first | exact HB.out | apply below_alloc | apply pw_below_drewN | apply below_drew1) | exact HB.out)) hb); have n1_ := Aside0.mk (hbox); have n2_ := Aside0.mk ((by rw [hg]; exact (below_size (by repeat (first | (with_reducible first | exact HB.out | apply below_alloc | apply pw_below_drewN | apply below_drew1) | exact HB.out))) : w.heap.size ≤ gb963)); have n3_ := Aside0.mk ((by rw [hg]; exact (below_size (by repeat (first | (with_reducible first | exact HB.out | apply below_alloc | apply pw_below_drewN | apply below_drew1) | exact HB.out))) : w.heap.size ≤ gb963)); clear HB; have HB := n0_; have BK963 := n1_; have GW963 := n2_; have GE963 := n3_; clear n0_ n1_ n2_ n3_; clear hb hbox hg; have hcz11_0 : w10.cell? ⟨gb963, 0, none⟩ = some (.int .i64 a0_0) := (blk_cell BK963.out 0).trans rfl; have hcz11_1 : w10.cell? ⟨gb963, 1, none⟩ = some (.int .i64 a0_1) := (blk_cell BK963.out 1).trans rfl; have hcz11_2 : w10.cell? ⟨gb963, 2, none⟩ = some (.bool a0_2) := (blk_cell BK963.out 2).trans rfl; have hcz11_3 : w10.cell? ⟨gb963, 3, none⟩ = some (.bool a0_3) := (blk_cell BK963.out 3).trans rfl; have hfz11_0 := blk_frozen BK963.out 0; have hfz11_1 := blk_frozen BK963.out 1; have hfz11_2 := blk_frozen BK963.out 2; have hfz11_3 := blk_frozen BK963.out 3) | ((with_reducible refine gate_callee (f := 108) rfl ?_); refine goesL_ (some 6) rfl rfl Try.func108 (by kernel_rfl) rfl #[.agg #[.int .i64 a0_0, .int .i64 a0_1, .bool a0_2, .bool a0_3]] rfl (by (try simp only [List.map_toArray, List.map_cons, List.map_nil]); first | done | rfl | (simp only [List.length_drop, List.length_take]; rfl)) ?_; (with_reducible refine (spec_arGood.calls a0_0 a0_1 a0_2 a0_3 false _ A3.out).mono ?_); rintro e w12 ⟨rfl, hb⟩; refine ⟨_, rfl, ?_⟩; have n0_ := Aside0.mk (blk_below (g := gb963) (o := .cells #[.int .i64 a0_0, .int .i64 a0_1, .bool a0_2, .bool a0_3] 51 (0, 0)) (by (with_reducible repeat (first | refine blk_drewN ?_ _ | refine blk_drew ?_ | refine blk_alloc ?_ _)); exact BK963.out) hb); have n1_ := Aside0.mk (below_step (by repeat (first | (with_reducible first | exact HB.out | apply below_alloc | apply pw_below_drewN | apply below_drew1 | refine below_set ?_ GE963.out) | exact HB.out)) hb); clear BK963; clear HB; have BK963 := n0_; have HB := n1_; clear n0_ n1_; (try clear hb); (try clear hb2); (try clear hk); (try clear hi); (try clear hna_); (try clear hnb_)))
  go_ret
  exact ⟨by first | rfl | (simp [errW_none, errW_some] <;> rfl) | (simp [*, errW_none, errW_some] <;> rfl), by repeat (first | (with_reducible first | exact HB.out | apply below_alloc | apply pw_below_drewN | apply below_drew1 | refine below_set ?_ GE963.out) | exact HB.out)⟩

/-! ### spec_boSteps: function 124 -/
mutual
def spec_boSteps.l0 : Nat → List (List Int) → Int → Int → Int → Option ((List (List Int)))
 | 0, _, _, _, _ => none
 | k + 1, x3, x4, x967000, x967001 => if x4 ≤ x967001 then (spec_boSteps.l1 k x3 x4 (wrap64 (-x967001)) x967000 x967001) else (some x3)
def spec_boSteps.l1 : Nat → List (List Int) → Int → Int → Int → Int → Option ((List (List Int)))
 | 0, _, _, _, _, _ => none
 | k + 1, x3, x4, x5, x967000, x967001 => if x5 ≤ x967001 then ((spec_l1Abs.f x4).bind fun t967 => ((spec_l1Abs.f x5).bind fun t968 => (if t967 = x967000 then (if t968 = x967001 then (if x3.length < 5864062014805 then (spec_boSteps.l1 k (x3 ++ [(([x4, x5] : List Int))]) x4 (wrap64 (x5 + 1)) x967000 x967001) else (none)) else (if t967 = x967001 then (if t968 = x967000 then (if x3.length < 5864062014805 then (spec_boSteps.l1 k (x3 ++ [(([x4, x5] : List Int))]) x4 (wrap64 (x5 + 1)) x967000 x967001) else (none)) else (spec_boSteps.l1 k x3 x4 (wrap64 (x5 + 1)) x967000 x967001)) else (spec_boSteps.l1 k x3 x4 (wrap64 (x5 + 1)) x967000 x967001))) else (if t967 = x967001 then (if t968 = x967000 then (if x3.length < 5864062014805 then (spec_boSteps.l1 k (x3 ++ [(([x4, x5] : List Int))]) x4 (wrap64 (x5 + 1)) x967000 x967001) else (none)) else (spec_boSteps.l1 k x3 x4 (wrap64 (x5 + 1)) x967000 x967001)) else (spec_boSteps.l1 k x3 x4 (wrap64 (x5 + 1)) x967000 x967001))))) else (spec_boSteps.l0 k x3 (wrap64 (x4 + 1)) x967000 x967001)
end
def spec_boSteps.f (k : Nat) (a0_0 : Int) (a0_1 : Int) : Option ((List (List Int))) := spec_boSteps.l0 k ([] : List (List Int)) (wrap64 (-a0_1)) a0_0 a0_1
set_option maxHeartbeats 8000000 in
set_option maxRecDepth 100000 in
theorem spec_boSteps.calls (k : Nat) (a0_0 : Int) (a0_1 : Int) (r : List (List Int)) (w : World) (h : spec_boSteps.f k a0_0 a0_1 = some r) :
  Calls Try.prog 124 #[.agg #[.int .i64 a0_0, .int .i64 a0_1]] w fun e w' => ∃ v0_ : Value, e = .returned (v0_) ∧ Kd.S (Kd.slice 3 (Kd.int .i64)) 22 w' w.heap.size (fun _ => True) v0_ r ∧ Below w.heap.size w w' := by
 have hu32 := Try.underlying32
 have HB := Aside0.mk (Below.refl w.heap.size w)
 have H : (spec_boSteps.l0 k ([] : List (List Int)) (wrap64 (-a0_1)) a0_0 a0_1) = some r := h
 clear h
 have H' := Aside0.mk H
 clear H
 go_enter Try.func124, Try.ntmps124
 go_wp2_with (first | ((with_reducible refine gate_dst (N := 1) rfl ?_); refine box_event ?hg (N := 1) ?hd (cs := #[.int .i64 a0_0, .int .i64 a0_1]) (t := 32) ?hr ?_; (case hd => rfl); (case hg => rfl); (case hr => first | (go_simp; done) | (go_simp; rfl)); intro gb966 hg w2 hbox hb; have n0_ := Aside0.mk (below_step (by repeat (first | (with_reducible first | exact HB.out | apply below_alloc | apply pw_below_drewN | apply below_drew1) | exact HB.out)) hb); have n1_ := Aside0.mk (hbox); have n2_ := Aside0.mk ((by rw [hg]; exact (below_size (by repeat (first | (with_reducible first | exact HB.out | apply below_alloc | apply pw_below_drewN | apply below_drew1) | exact HB.out))) : w.heap.size ≤ gb966)); have n3_ := Aside0.mk ((by rw [hg]; exact (below_size (by repeat (first | (with_reducible first | exact HB.out | apply below_alloc | apply pw_below_drewN | apply below_drew1) | exact HB.out))) : w.heap.size ≤ gb966)); clear HB; have HB := n0_; have BK966 := n1_; have GW966 := n2_; have GE966 := n3_; clear n0_ n1_ n2_ n3_; clear hb hbox hg; have hcz3_0 : w2.cell? ⟨gb966, 0, none⟩ = some (.int .i64 a0_0) := (blk_cell BK966.out 0).trans rfl; have hcz3_1 : w2.cell? ⟨gb966, 1, none⟩ = some (.int .i64 a0_1) := (blk_cell BK966.out 1).trans rfl; have hfz3_0 := blk_frozen BK966.out 0; have hfz3_1 := blk_frozen BK966.out 1))
 go_loopg [3, 4] k (fun kq v3 v4 w' => ∃ (x3_1 : List (List Int)) (x4_1 : Int), v4 = .int .i64 x4_1 ∧ Aside0 (spec_boSteps.l0 kq x3_1 x4_1 a0_0 a0_1 = some r) ∧ Aside0 (kq ≤ k) ∧ Aside0 (Kd.S (Kd.slice 3 (Kd.int .i64)) 22 w' w.heap.size (fun _ => True) v3 x3_1) ∧ Aside0 (w'.heap[gb966]? = some (.cells #[.int .i64 a0_0, .int .i64 a0_1] 32 (0, 0))) ∧ Aside0 (Below w.heap.size w w'))
 case atStart => exact ⟨(([] : List (List Int))), (wrap64 (-a0_1)), (by first | rfl | (simp; done) | (simp [*]; done)), H', ⟨Nat.le_refl _⟩, ⟨by first | exact Kd.S_nil _ _ _ _ _ | exact Kd.N_nil _ _ _ _ _ | exact Kd.V_nil _ _ _ _ _ | exact Kd.Q_nil _ _ _ _ _ | exact Kd.R_nil _ _ _ _ _⟩, ⟨by (with_reducible repeat (first | refine blk_drewN ?_ _ | refine blk_drew ?_ | refine blk_alloc ?_ _)); exact BK966.out⟩, ⟨by repeat (first | (with_reducible first | exact HB.out | apply below_alloc | apply pw_below_drewN | apply below_drew1 | refine below_set ?_ GE966.out) | exact HB.out)⟩⟩
 case round =>
  clear H'
  try clear c1; try clear p2; try clear hcz3_0; try clear hcz3_1; try clear hfz3_0; try clear hfz3_1
  obtain ⟨x3_1, x4_1, rfl, HA, HK1, HO_3, BK966, HB⟩ := hrel
  cases gk with
  | zero => exact absurd HA.out (by simp [spec_boSteps.l0])
  | succ k1 =>
   have H := HA.out
   clear HA
   simp only [spec_boSteps.l0] at H
   by_cases c4 : x4_1 ≤ a0_1
   ·rw [if_pos c4] at H
    have c4b0 : decide (x4_1 ≤ a0_1) = true := decide_eq_true c4
    clear c4
    have H' := Aside0.mk H
    clear H
    have hcz5_0 : wr.cell? ⟨gb966, 0, none⟩ = some (.int .i64 a0_0) := (blk_cell BK966.out 0).trans rfl
    have hcz5_1 : wr.cell? ⟨gb966, 1, none⟩ = some (.int .i64 a0_1) := (blk_cell BK966.out 1).trans rfl
    have hfz5_0 := blk_frozen BK966.out 0
    have hfz5_1 := blk_frozen BK966.out 1
    go_wp2
    go_loopg [3, 5] k1 (fun kq v3 v5 w' => ∃ (x3_2 : List (List Int)) (x5_2 : Int), v5 = .int .i64 x5_2 ∧ Aside0 (spec_boSteps.l1 kq x3_2 x4_1 x5_2 a0_0 a0_1 = some r) ∧ Aside0 (kq ≤ k1) ∧ Aside0 (Kd.S (Kd.slice 3 (Kd.int .i64)) 22 w' w.heap.size (fun _ => True) v3 x3_2) ∧ Aside0 (w'.heap[gb966]? = some (.cells #[.int .i64 a0_0, .int .i64 a0_1] 32 (0, 0))) ∧ Aside0 (Below w.heap.size w w'))
    case atStart => exact ⟨(x3_1), (wrap64 (-a0_1)), (by first | rfl | (simp; done) | (simp [*]; done)), H', ⟨Nat.le_refl _⟩, ⟨by (with_reducible repeat (first | apply Kd.S_alloc | apply Kd.S_drewN | apply Kd.S_drew)); exact HO_3.out⟩, ⟨by (with_reducible repeat (first | refine blk_drewN ?_ _ | refine blk_drew ?_ | refine blk_alloc ?_ _)); exact BK966.out⟩, ⟨by repeat (first | (with_reducible first | exact HB.out | apply below_alloc | apply pw_below_drewN | apply below_drew1 | refine below_set ?_ GE966.out) | exact HB.out)⟩⟩
    case round =>
     clear H'
     try clear c1; try clear p2; try clear c4; try clear c4b0; try clear hcz3_0; try clear hcz3_1; try clear hcz5_0; try clear hcz5_1; try clear hfz3_0; try clear hfz3_1; try clear hfz5_0; try clear hfz5_1; try clear p2
     obtain ⟨x3_2, x5_2, rfl, HA, HK2, HO_3, BK966, HB⟩ := hrel
     cases gk with
     | zero => exact absurd HA.out (by simp [spec_boSteps.l1])
     | succ k2 =>
      have H := HA.out
      clear HA
      simp only [spec_boSteps.l1] at H
      by_cases c6 : x5_2 ≤ a0_1
      ·rw [if_pos c6] at H
       have c6b0 : decide (x5_2 ≤ a0_1) = true := decide_eq_true c6
       clear c6
       replace H := Option.bind_eq_some_iff.mp H
       obtain ⟨t967, A70, H⟩ := H
       replace H : ((spec_l1Abs.f x5_2).bind fun t968 => (if t967 = a0_0 then (if t968 = a0_1 then (if x3_2.length < 5864062014805 then (spec_boSteps.l1 k2 (x3_2 ++ [(([x4_1, x5_2] : List Int))]) x4_1 (wrap64 (x5_2 + 1)) a0_0 a0_1) else (none)) else (if t967 = a0_1 then (if t968 = a0_0 then (if x3_2.length < 5864062014805 then (spec_boSteps.l1 k2 (x3_2 ++ [(([x4_1, x5_2] : List Int))]) x4_1 (wrap64 (x5_2 + 1)) a0_0 a0_1) else (none)) else (spec_boSteps.l1 k2 x3_2 x4_1 (wrap64 (x5_2 + 1)) a0_0 a0_1)) else (spec_boSteps.l1 k2 x3_2 x4_1 (wrap64 (x5_2 + 1)) a0_0 a0_1))) else (if t967 = a0_1 then (if t968 = a0_0 then (if x3_2.length < 5864062014805 then (spec_boSteps.l1 k2 (x3_2 ++ [(([x4_1, x5_2] : List Int))]) x4_1 (wrap64 (x5_2 + 1)) a0_0 a0_1) else (none)) else (spec_boSteps.l1 k2 x3_2 x4_1 (wrap64 (x5_2 + 1)) a0_0 a0_1)) else (spec_boSteps.l1 k2 x3_2 x4_1 (wrap64 (x5_2 + 1)) a0_0 a0_1)))) = some r := H
       have A7 := Aside0.mk A70
       clear A70
       replace H := Option.bind_eq_some_iff.mp H
       obtain ⟨t968, A80, H⟩ := H
       replace H : (if t967 = a0_0 then (if t968 = a0_1 then (if x3_2.length < 5864062014805 then (spec_boSteps.l1 k2 (x3_2 ++ [(([x4_1, x5_2] : List Int))]) x4_1 (wrap64 (x5_2 + 1)) a0_0 a0_1) else (none)) else (if t967 = a0_1 then (if t968 = a0_0 then (if x3_2.length < 5864062014805 then (spec_boSteps.l1 k2 (x3_2 ++ [(([x4_1, x5_2] : List Int))]) x4_1 (wrap64 (x5_2 + 1)) a0_0 a0_1) else (none)) else (spec_boSteps.l1 k2 x3_2 x4_1 (wrap64 (x5_2 + 1)) a0_0 a0_1)) else (spec_boSteps.l1 k2 x3_2 x4_1 (wrap64 (x5_2 + 1)) a0_0 a0_1))) else (if t967 = a0_1 then (if t968 = a0_0 then (if x3_2.length < 5864062014805 then (spec_boSteps.l1 k2 (x3_2 ++ [(([x4_1, x5_2] : List Int))]) x4_1 (wrap64 (x5_2 + 1)) a0_0 a0_1) else (none)) else (spec_boSteps.l1 k2 x3_2 x4_1 (wrap64 (x5_2 + 1)) a0_0 a0_1)) else (spec_boSteps.l1 k2 x3_2 x4_1 (wrap64 (x5_2 + 1)) a0_0 a0_1))) = some r := H
       have A8 := Aside0.mk A80
       clear A80
       by_cases c9 : t967 = a0_0
       ·rw [if_pos c9] at H
        have c9b0 : (t967 == a0_0) = true := beq_iff_eq.mpr c9
        have c9b1 : (t967 != a0_0) = false := bne_eq_false_iff_eq.mpr c9
        clear c9
        by_cases c10 : t968 = a0_1
        ·rw [if_pos c10] at H
         have c10b0 : (t968 == a0_1) = true := beq_iff_eq.mpr c10
         have c10b1 : (t968 != a0_1) = false := bne_eq_false_iff_eq.mpr c10
         clear c10
         obtain ⟨y969, hy969⟩ : ∃ y_ : List Int, y_ = (([x4_1, x5_2] : List Int)) := ⟨_, rfl⟩
         replace H : (if x3_2.length < 5864062014805 then (spec_boSteps.l1 k2 (x3_2 ++ [y969]) x4_1 (wrap64 (x5_2 + 1)) a0_0 a0_1) else (none)) = some r := by first | (rw [hy969]; with_reducible exact H) | (have H2_ := (Option.bind_some _ _).symm.trans H; rw [hy969]; with_reducible exact H2_) | (have H2_ := (Option.bind_some _ _).symm.trans H; with_reducible exact H2_) | with_reducible exact H | (rw [hy969]; exact H) | exact H
         have Ny969 := Aside0.mk hy969
         clear hy969
         by_cases c11 : x3_2.length < 5864062014805
         ·rw [if_pos c11] at H
          have LMc11 := Aside0.mk c11
          clear c11
          obtain ⟨y972, hy972⟩ : ∃ y_ : List (List Int), y_ = (x3_2 ++ [y969]) := ⟨_, rfl⟩
          replace H : (spec_boSteps.l1 k2 y972 x4_1 (wrap64 (x5_2 + 1)) a0_0 a0_1) = some r := by first | (rw [hy972]; with_reducible exact H) | (have H2_ := (Option.bind_some _ _).symm.trans H; rw [hy972]; with_reducible exact H2_) | (have H2_ := (Option.bind_some _ _).symm.trans H; with_reducible exact H2_) | with_reducible exact H | (rw [hy972]; exact H) | exact H
          have Ny972 := Aside0.mk hy972
          clear hy972
          have H' := Aside0.mk H
          clear H
          have hcz12_0 : wr.cell? ⟨gb966, 0, none⟩ = some (.int .i64 a0_0) := (blk_cell BK966.out 0).trans rfl
          have hcz12_1 : wr.cell? ⟨gb966, 1, none⟩ = some (.int .i64 a0_1) := (blk_cell BK966.out 1).trans rfl
          have hfz12_0 := blk_frozen BK966.out 0
          have hfz12_1 := blk_frozen BK966.out 1
          go_wp2_with (first | ((with_reducible refine gate_callee (f := 117) rfl ?_); refine goesL_ (some 27) rfl rfl Try.func117 (by kernel_rfl) rfl #[.int .i64 x4_1] rfl (by (try simp only [List.map_toArray, List.map_cons, List.map_nil]); first | done | rfl | (simp only [List.length_drop, List.length_take]; rfl)) ?_; (with_reducible refine (spec_l1Abs.calls x4_1 t967 _ A7.out).mono ?_); rintro e w' ⟨rfl, ⟨nd, rfl⟩⟩; refine ⟨_, rfl, ?_⟩) | ((with_reducible refine gate_callee (f := 117) rfl ?_); refine goesL_ (some 29) rfl rfl Try.func117 (by kernel_rfl) rfl #[.int .i64 x5_2] rfl (by (try simp only [List.map_toArray, List.map_cons, List.map_nil]); first | done | rfl | (simp only [List.length_drop, List.length_take]; rfl)) ?_; (with_reducible refine (spec_l1Abs.calls x5_2 t968 _ A8.out).mono ?_); rintro e w' ⟨rfl, ⟨nd, rfl⟩⟩; refine ⟨_, rfl, ?_⟩) | ((with_reducible refine gate_dst (N := 55) rfl ?_); refine Kd.R_lit (Kd.int .i64) _ 3 ?hg (N := 55) ?hd (xs := ([x4_1, x5_2] : List Int)) (inner := [.int .i64 x4_1, .int .i64 x5_2]) (ok := fun _ => True) (okp := fun _ => True) ?hr ?hp (fun _ hk => hk) trivial (Below.refl _ _) (Nat.le_refl _) (by simp) ?_; (case hd => rfl); (case hg => rfl); (case hr => first | (go_simp; done) | (go_simp; rfl)); (case hp => exact (Reps.one (show Kd.M (Kd.int .i64) _ _ _ x4_1 [.int .i64 x4_1] from rfl) (Reps.one (show Kd.M (Kd.int .i64) _ _ _ x5_2 [.int .i64 x5_2] from rfl) (Reps.none _ _)))); intro v970 w13 ho14 hb hg_ hnew_; clear hg_ hnew_; (first | rw [← Ny969.out] at ho14 | (simp only [Int.reduceToNat] at ho14; rw [← Ny969.out] at ho14)); have n0_ := Aside0.mk (Kd.S_elder' (by (with_reducible repeat (first | apply Kd.S_alloc | apply Kd.S_drewN | apply Kd.S_drew)); exact HO_3.out) (Kd.R_base ho14) hb); have n1_ := Aside0.mk (Kd.R_lower ho14 (below_size (by repeat (first | (with_reducible first | exact HB.out | apply below_alloc | apply pw_below_drewN | apply below_drew1 | refine below_set ?_ GE966.out) | exact HB.out)))); have n2_ := Aside0.mk (blk_below (g := gb966) (o := .cells #[.int .i64 a0_0, .int .i64 a0_1] 32 (0, 0)) (by (with_reducible repeat (first | refine blk_drewN ?_ _ | refine blk_drew ?_ | refine blk_alloc ?_ _)); exact BK966.out) hb); have n3_ := Aside0.mk (below_step (by repeat (first | (with_reducible first | exact HB.out | apply below_alloc | apply pw_below_drewN | apply below_drew1 | refine below_set ?_ GE966.out) | exact HB.out)) hb); clear HO_3; clear BK966; clear HB; have HO_3 := n0_; have HO971 := n1_; have BK966 := n2_; have HB := n3_; clear n0_ n1_ n2_ n3_; clear hb ho14; obtain ⟨Ao16, co16, eo16⟩ := Kd.R_slice HO971.out; subst eo16) | ((with_reducible refine gate_builtin (b := .append) (xs := #[.tmp 52, .tmp 56]) rfl ?_); at_builtin; refine Kd.S_append (Kd.slice 3 (Kd.int .i64)) (w0 := w) w.heap.size rfl (.tmp 52) (.tmp 56) 63 22 (.slice none 0 0) 24 rfl Try.underlying63 info22 rfl (by decide) (by omega) u3 x3_2 y969 [.slice Ao16 y969.length co16] (fun _ => True) (fun k_ => some k_ = (.slice Ao16 y969.length co16 : Value).ownBlock) rfl rfl ?aP (fun k_ hk_ => ((Kd.R_mono (ok' := fun k_ => ((fun _ => True)) k_ ∧ some k_ ≠ (u3 : Value).ownBlock) (Kd.R_apart' (HO971.out) (Kd.S_typed HO_3.out) (by decide)) (fun k_ hk => ⟨trivial, hk.2⟩))).1 k_ hk_.symm) ?aF ?aO ?aB ?aS ?aL ?_; (case aP => exact Kd.M_row (Kd.R_mono (Kd.R_tight rfl (Kd.R_mono (ok' := fun k_ => ((fun _ => True)) k_ ∧ some k_ ≠ (u3 : Value).ownBlock) (Kd.R_apart' (HO971.out) (Kd.S_typed HO_3.out) (by decide)) (fun k_ hk => ⟨trivial, hk.2⟩))) (fun _ h_ => h_))); (case aB => exact (by repeat (first | (with_reducible first | exact HB.out | apply below_alloc | apply pw_below_drewN | apply below_drew1 | refine below_set ?_ GE966.out) | exact HB.out))); (case aF => exact (fun _ _ => trivial)); (case aO => exact (by (with_reducible repeat (first | apply Kd.S_alloc | apply Kd.S_drewN | apply Kd.S_drew)); exact Kd.S_mono HO_3.out (fun k_ hk => ⟨trivial, fun e_ => hk.2 e_⟩))); (case aS => exact (below_size (by repeat (first | (with_reducible first | exact HB.out | apply below_alloc | apply pw_below_drewN | apply below_drew1 | refine below_set ?_ GE966.out) | exact HB.out)))); (case aL => have := LMc11.out; omega); intro v973 w15 ho hb hg hat; rw [← Ny972.out] at ho; have n0_ := Aside0.mk (blk_grown (g := gb966) (o := .cells #[.int .i64 a0_0, .int .i64 a0_1] 32 (0, 0)) (by (with_reducible repeat (first | refine blk_drewN ?_ _ | refine blk_drew ?_ | refine blk_alloc ?_ _)); exact BK966.out) hg (Kd.S_ne HO_3.out BK966.out (by decide))); have n1_ := Aside0.mk (hb); have n2_ := Aside0.mk (ho); clear BK966; clear HB; clear HO_3; clear HO971; have BK966 := n0_; have HB := n1_; have HO974 := n2_; clear n0_ n1_ n2_; clear ho hb hg hat))
          go_roundg k2
          case measure => have := HK1.out; have := HK2.out; omega
          case rel => exact ⟨(y972), (wrap64 (x5_2 + 1)), (by first | rfl | (simp; done) | (simp [*]; done)), H', ⟨by have := HK1.out; have := HK2.out; omega⟩, ⟨by (with_reducible repeat (first | apply Kd.S_alloc | apply Kd.S_drewN | apply Kd.S_drew)); exact HO974.out⟩, ⟨by (with_reducible repeat (first | refine blk_drewN ?_ _ | refine blk_drew ?_ | refine blk_alloc ?_ _)); exact BK966.out⟩, ⟨by repeat (first | (with_reducible first | exact HB.out | apply below_alloc | apply pw_below_drewN | apply below_drew1 | refine below_set ?_ GE966.out) | exact HB.out)⟩⟩
         ·rw [if_neg c11] at H
          exact absurd H (by simp)
        ·rw [if_neg c10] at H
         have c10b0 : (t968 == a0_1) = false := beq_eq_false_iff_ne.mpr c10
         have c10b1 : (t968 != a0_1) = true := bne_iff_ne.mpr c10
         by_cases c17 : t967 = a0_1
         ·rw [if_pos c17] at H
          have c17b0 : (t967 == a0_1) = true := beq_iff_eq.mpr c17
          have c17b1 : (t967 != a0_1) = false := bne_eq_false_iff_eq.mpr c17
          clear c17
          by_cases c18 : t968 = a0_0
          ·rw [if_pos c18] at H
           have c18b0 : (t968 == a0_0) = true := beq_iff_eq.mpr c18
           have c18b1 : (t968 != a0_0) = false := bne_eq_false_iff_eq.mpr c18
           clear c18
           obtain ⟨y975, hy975⟩ : ∃ y_ : List Int, y_ = (([x4_1, x5_2] : List Int)) := ⟨_, rfl⟩
           replace H : (if x3_2.length < 5864062014805 then (spec_boSteps.l1 k2 (x3_2 ++ [y975]) x4_1 (wrap64 (x5_2 + 1)) a0_0 a0_1) else (none)) = some r := by first | (rw [hy975]; with_reducible exact H) | (have H2_ := (Option.bind_some _ _).symm.trans H; rw [hy975]; with_reducible exact H2_) | (have H2_ := (Option.bind_some _ _).symm.trans H; with_reducible exact H2_) | with_reducible exact H | (rw [hy975]; exact H) | exact H
           have Ny975 := Aside0.mk hy975
           clear hy975
           by_cases c19 : x3_2.length < 5864062014805
           ·rw [if_pos c19] at H
            have LMc19 := Aside0.mk c19
            clear c19
            obtain ⟨y978, hy978⟩ : ∃ y_ : List (List Int), y_ = (x3_2 ++ [y975]) := ⟨_, rfl⟩
            replace H : (spec_boSteps.l1 k2 y978 x4_1 (wrap64 (x5_2 + 1)) a0_0 a0_1) = some r := by first | (rw [hy978]; with_reducible exact H) | (have H2_ := (Option.bind_some _ _).symm.trans H; rw [hy978]; with_reducible exact H2_) | (have H2_ := (Option.bind_some _ _).symm.trans H; with_reducible exact H2_) | with_reducible exact H | (rw [hy978]; exact H) | exact H
            have Ny978 := Aside0.mk hy978
            clear hy978
            have H' := Aside0.mk H
            clear H
            have hcz20_0 : wr.cell? ⟨gb966, 0, none⟩ = some (.int .i64 a0_0) := (blk_cell BK966.out 0).trans rfl
            have hcz20_1 : wr.cell? ⟨gb966, 1, none⟩ = some (.int .i64 a0_1) := (blk_cell BK966.out 1).trans rfl
            have hfz20_0 := blk_frozen BK966.out 0
            have hfz20_1 := blk_frozen BK966.out 1
            go_wp2_with (first | ((with_reducible refine gate_callee (f := 117) rfl ?_); refine goesL_ (some 27) rfl rfl Try.func117 (by kernel_rfl) rfl #[.int .i64 x4_1] rfl (by (try simp only [List.map_toArray, List.map_cons, List.map_nil]); first | done | rfl | (simp only [List.length_drop, List.length_take]; rfl)) ?_; (with_reducible refine (spec_l1Abs.calls x4_1 t967 _ A7.out).mono ?_); rintro e w' ⟨rfl, ⟨nd, rfl⟩⟩; refine ⟨_, rfl, ?_⟩) | ((with_reducible refine gate_callee (f := 117) rfl ?_); refine goesL_ (some 29) rfl rfl Try.func117 (by kernel_rfl) rfl #[.int .i64 x5_2] rfl (by (try simp only [List.map_toArray, List.map_cons, List.map_nil]); first | done | rfl | (simp only [List.length_drop, List.length_take]; rfl)) ?_; (with_reducible refine (spec_l1Abs.calls x5_2 t968 _ A8.out).mono ?_); rintro e w' ⟨rfl, ⟨nd, rfl⟩⟩; refine ⟨_, rfl, ?_⟩) | ((with_reducible refine gate_dst (N := 55) rfl ?_); refine Kd.R_lit (Kd.int .i64) _ 3 ?hg (N := 55) ?hd (xs := ([x4_1, x5_2] : List Int)) (inner := [.int .i64 x4_1, .int .i64 x5_2]) (ok := fun _ => True) (okp := fun _ => True) ?hr ?hp (fun _ hk => hk) trivial (Below.refl _ _) (Nat.le_refl _) (by simp) ?_; (case hd => rfl); (case hg => rfl); (case hr => first | (go_simp; done) | (go_simp; rfl)); (case hp => exact (Reps.one (show Kd.M (Kd.int .i64) _ _ _ x4_1 [.int .i64 x4_1] from rfl) (Reps.one (show Kd.M (Kd.int .i64) _ _ _ x5_2 [.int .i64 x5_2] from rfl) (Reps.none _ _)))); intro v976 w21 ho22 hb hg_ hnew_; clear hg_ hnew_; (first | rw [← Ny975.out] at ho22 | (simp only [Int.reduceToNat] at ho22; rw [← Ny975.out] at ho22)); have n0_ := Aside0.mk (Kd.S_elder' (by (with_reducible repeat (first | apply Kd.S_alloc | apply Kd.S_drewN | apply Kd.S_drew)); exact HO_3.out) (Kd.R_base ho22) hb); have n1_ := Aside0.mk (Kd.R_lower ho22 (below_size (by repeat (first | (with_reducible first | exact HB.out | apply below_alloc | apply pw_below_drewN | apply below_drew1 | refine below_set ?_ GE966.out) | exact HB.out)))); have n2_ := Aside0.mk (blk_below (g := gb966) (o := .cells #[.int .i64 a0_0, .int .i64 a0_1] 32 (0, 0)) (by (with_reducible repeat (first | refine blk_drewN ?_ _ | refine blk_drew ?_ | refine blk_alloc ?_ _)); exact BK966.out) hb); have n3_ := Aside0.mk (below_step (by repeat (first | (with_reducible first | exact HB.out | apply below_alloc | apply pw_below_drewN | apply below_drew1 | refine below_set ?_ GE966.out) | exact HB.out)) hb); clear HO_3; clear BK966; clear HB; have HO_3 := n0_; have HO977 := n1_; have BK966 := n2_; have HB := n3_; clear n0_ n1_ n2_ n3_; clear hb ho22; obtain ⟨Ao24, co24, eo24⟩ := Kd.R_slice HO977.out; subst eo24) | ((with_reducible refine gate_builtin (b := .append) (xs := #[.tmp 52, .tmp 56]) rfl ?_); at_builtin; refine Kd.S_append (Kd.slice 3 (Kd.int .i64)) (w0 := w) w.heap.size rfl (.tmp 52) (.tmp 56) 63 22 (.slice none 0 0) 24 rfl Try.underlying63 info22 rfl (by decide) (by omega) u3 x3_2 y975 [.slice Ao24 y975.length co24] (fun _ => True) (fun k_ => some k_ = (.slice Ao24 y975.length co24 : Value).ownBlock) rfl rfl ?aP (fun k_ hk_ => ((Kd.R_mono (ok' := fun k_ => ((fun _ => True)) k_ ∧ some k_ ≠ (u3 : Value).ownBlock) (Kd.R_apart' (HO977.out) (Kd.S_typed HO_3.out) (by decide)) (fun k_ hk => ⟨trivial, hk.2⟩))).1 k_ hk_.symm) ?aF ?aO ?aB ?aS ?aL ?_; (case aP => exact Kd.M_row (Kd.R_mono (Kd.R_tight rfl (Kd.R_mono (ok' := fun k_ => ((fun _ => True)) k_ ∧ some k_ ≠ (u3 : Value).ownBlock) (Kd.R_apart' (HO977.out) (Kd.S_typed HO_3.out) (by decide)) (fun k_ hk => ⟨trivial, hk.2⟩))) (fun _ h_ => h_))); (case aB => exact (by repeat (first | (with_reducible first | exact HB.out | apply below_alloc | apply pw_below_drewN | apply below_drew1 | refine below_set ?_ GE966.out) | exact HB.out))); (case aF => exact (fun _ _ => trivial)); (case aO => exact (by (with_reducible repeat (first | apply Kd.S_alloc | apply Kd.S_drewN | apply Kd.S_drew)); exact Kd.S_mono HO_3.out (fun k_ hk => ⟨trivial, fun e_ => hk.2 e_⟩))); (case aS => exact (below_size (by repeat (first | (with_reducible first | exact HB.out | apply below_alloc | apply pw_below_drewN | apply below_drew1 | refine below_set ?_ GE966.out) | exact HB.out)))); (case aL => have := LMc19.out; omega); intro v979 w23 ho hb hg hat; rw [← Ny978.out] at ho; have n0_ := Aside0.mk (blk_grown (g := gb966) (o := .cells #[.int .i64 a0_0, .int .i64 a0_1] 32 (0, 0)) (by (with_reducible repeat (first | refine blk_drewN ?_ _ | refine blk_drew ?_ | refine blk_alloc ?_ _)); exact BK966.out) hg (Kd.S_ne HO_3.out BK966.out (by decide))); have n1_ := Aside0.mk (hb); have n2_ := Aside0.mk (ho); clear BK966; clear HB; clear HO_3; clear HO977; have BK966 := n0_; have HB := n1_; have HO980 := n2_; clear n0_ n1_ n2_; clear ho hb hg hat))
            go_roundg k2
            case measure => have := HK1.out; have := HK2.out; omega
            case rel => exact ⟨(y978), (wrap64 (x5_2 + 1)), (by first | rfl | (simp; done) | (simp [*]; done)), H', ⟨by have := HK1.out; have := HK2.out; omega⟩, ⟨by (with_reducible repeat (first | apply Kd.S_alloc | apply Kd.S_drewN | apply Kd.S_drew)); exact HO980.out⟩, ⟨by (with_reducible repeat (first | refine blk_drewN ?_ _ | refine blk_drew ?_ | refine blk_alloc ?_ _)); exact BK966.out⟩, ⟨by repeat (first | (with_reducible first | exact HB.out | apply below_alloc | apply pw_below_drewN | apply below_drew1 | refine below_set ?_ GE966.out) | exact HB.out)⟩⟩
           ·rw [if_neg c19] at H
            exact absurd H (by simp)
          ·rw [if_neg c18] at H
           have c18b0 : (t968 == a0_0) = false := beq_eq_false_iff_ne.mpr c18
           have c18b1 : (t968 != a0_0) = true := bne_iff_ne.mpr c18
           have H' := Aside0.mk H
           clear H
           have hcz25_0 : wr.cell? ⟨gb966, 0, none⟩ = some (.int .i64 a0_0) := (blk_cell BK966.out 0).trans rfl
           have hcz25_1 : wr.cell? ⟨gb966, 1, none⟩ = some (.int .i64 a0_1) := (blk_cell BK966.out 1).trans rfl
           have hfz25_0 := blk_frozen BK966.out 0
           have hfz25_1 := blk_frozen BK966.out 1
           go_wp2_with (first | ((with_reducible refine gate_callee (f := 117) rfl ?_); refine goesL_ (some 27) rfl rfl Try.func117 (by kernel_rfl) rfl #[.int .i64 x4_1] rfl (by (try simp only [List.map_toArray, List.map_cons, List.map_nil]); first | done | rfl | (simp only [List.length_drop, List.length_take]; rfl)) ?_; (with_reducible refine (spec_l1Abs.calls x4_1 t967 _ A7.out).mono ?_); rintro e w' ⟨rfl, ⟨nd, rfl⟩⟩; refine ⟨_, rfl, ?_⟩) | ((with_reducible refine gate_callee (f := 117) rfl ?_); refine goesL_ (some 29) rfl rfl Try.func117 (by kernel_rfl) rfl #[.int .i64 x5_2] rfl (by (try simp only [List.map_toArray, List.map_cons, List.map_nil]); first | done | rfl | (simp only [List.length_drop, List.length_take]; rfl)) ?_; (with_reducible refine (spec_l1Abs.calls x5_2 t968 _ A8.out).mono ?_); rintro e w' ⟨rfl, ⟨nd, rfl⟩⟩; refine ⟨_, rfl, ?_⟩))
           go_roundg k2
           case measure => have := HK1.out; have := HK2.out; omega
           case rel => exact ⟨(x3_2), (wrap64 (x5_2 + 1)), (by first | rfl | (simp; done) | (simp [*]; done)), H', ⟨by have := HK1.out; have := HK2.out; omega⟩, ⟨by (with_reducible repeat (first | apply Kd.S_alloc | apply Kd.S_drewN | apply Kd.S_drew)); exact HO_3.out⟩, ⟨by (with_reducible repeat (first | refine blk_drewN ?_ _ | refine blk_drew ?_ | refine blk_alloc ?_ _)); exact BK966.out⟩, ⟨by repeat (first | (with_reducible first | exact HB.out | apply below_alloc | apply pw_below_drewN | apply below_drew1 | refine below_set ?_ GE966.out) | exact HB.out)⟩⟩
         ·rw [if_neg c17] at H
          have c17b0 : (t967 == a0_1) = false := beq_eq_false_iff_ne.mpr c17
          have c17b1 : (t967 != a0_1) = true := bne_iff_ne.mpr c17
          have H' := Aside0.mk H
          clear H
          have hcz26_0 : wr.cell? ⟨gb966, 0, none⟩ = some (.int .i64 a0_0) := (blk_cell BK966.out 0).trans rfl
          have hcz26_1 : wr.cell? ⟨gb966, 1, none⟩ = some (.int .i64 a0_1) := (blk_cell BK966.out 1).trans rfl
          have hfz26_0 := blk_frozen BK966.out 0
          have hfz26_1 := blk_frozen BK966.out 1
          go_wp2_with (first | ((with_reducible refine gate_callee (f := 117) rfl ?_); refine goesL_ (some 27) rfl rfl Try.func117 (by kernel_rfl) rfl #[.int .i64 x4_1] rfl (by (try simp only [List.map_toArray, List.map_cons, List.map_nil]); first | done | rfl | (simp only [List.length_drop, List.length_take]; rfl)) ?_; (with_reducible refine (spec_l1Abs.calls x4_1 t967 _ A7.out).mono ?_); rintro e w' ⟨rfl, ⟨nd, rfl⟩⟩; refine ⟨_, rfl, ?_⟩) | ((with_reducible refine gate_callee (f := 117) rfl ?_); refine goesL_ (some 29) rfl rfl Try.func117 (by kernel_rfl) rfl #[.int .i64 x5_2] rfl (by (try simp only [List.map_toArray, List.map_cons, List.map_nil]); first | done | rfl | (simp only [List.length_drop, List.length_take]; rfl)) ?_; (with_reducible refine (spec_l1Abs.calls x5_2 t968 _ A8.out).mono ?_); rintro e w' ⟨rfl, ⟨nd, rfl⟩⟩; refine ⟨_, rfl, ?_⟩))
          go_roundg k2
          case measure => have := HK1.out; have := HK2.out; omega
          case rel => exact ⟨(x3_2), (wrap64 (x5_2 + 1)), (by first | rfl | (simp; done) | (simp [*]; done)), H', ⟨by have := HK1.out; have := HK2.out; omega⟩, ⟨by (with_reducible repeat (first | apply Kd.S_alloc | apply Kd.S_drewN | apply Kd.S_drew)); exact HO_3.out⟩, ⟨by (with_reducible repeat (first | refine blk_drewN ?_ _ | refine blk_drew ?_ | refine blk_alloc ?_ _)); exact BK966.out⟩, ⟨by repeat (first | (with_reducible first | exact HB.out | apply below_alloc | apply pw_below_drewN | apply below_drew1 | refine below_set ?_ GE966.out) | exact HB.out)⟩⟩
       ·rw [if_neg c9] at H
        have c9b0 : (t967 == a0_0) = false := beq_eq_false_iff_ne.mpr c9
        have c9b1 : (t967 != a0_0) = true := bne_iff_ne.mpr c9
        by_cases c27 : t967 = a0_1
        ·rw [if_pos c27] at H
         have c27b0 : (t967 == a0_1) = true := beq_iff_eq.mpr c27
         have c27b1 : (t967 != a0_1) = false := bne_eq_false_iff_eq.mpr c27
         clear c27
         by_cases c28 : t968 = a0_0
         ·rw [if_pos c28] at H
          have c28b0 : (t968 == a0_0) = true := beq_iff_eq.mpr c28
          have c28b1 : (t968 != a0_0) = false := bne_eq_false_iff_eq.mpr c28
          clear c28
          obtain ⟨y981, hy981⟩ : ∃ y_ : List Int, y_ = (([x4_1, x5_2] : List Int)) := ⟨_, rfl⟩
          replace H : (if x3_2.length < 5864062014805 then (spec_boSteps.l1 k2 (x3_2 ++ [y981]) x4_1 (wrap64 (x5_2 + 1)) a0_0 a0_1) else (none)) = some r := by first | (rw [hy981]; with_reducible exact H) | (have H2_ := (Option.bind_some _ _).symm.trans H; rw [hy981]; with_reducible exact H2_) | (have H2_ := (Option.bind_some _ _).symm.trans H; with_reducible exact H2_) | with_reducible exact H | (rw [hy981]; exact H) | exact H
          have Ny981 := Aside0.mk hy981
          clear hy981
          by_cases c29 : x3_2.length < 5864062014805
          ·rw [if_pos c29] at H
           have LMc29 := Aside0.mk c29
           clear c29
           obtain ⟨y984, hy984⟩ : ∃ y_ : List (List Int), y_ = (x3_2 ++ [y981]) := ⟨_, rfl⟩
           replace H : (spec_boSteps.l1 k2 y984 x4_1 (wrap64 (x5_2 + 1)) a0_0 a0_1) = some r := by first | (rw [hy984]; with_reducible exact H) | (have H2_ := (Option.bind_some _ _).symm.trans H; rw [hy984]; with_reducible exact H2_) | (have H2_ := (Option.bind_some _ _).symm.trans H; with_reducible exact H2_) | with_reducible exact H | (rw [hy984]; exact H) | exact H
           have Ny984 := Aside0.mk hy984
           clear hy984
           have H' := Aside0.mk H
           clear H
           have hcz30_0 : wr.cell? ⟨gb966, 0, none⟩ = some (.int .i64 a0_0) := (blk_cell BK966.out 0).trans rfl
           have hcz30_1 : wr.cell? ⟨gb966, 1, none⟩ = some (.int .i64 a0_1) := (blk_cell BK966.out 1).trans rfl
           have hfz30_0 := blk_frozen BK966.out 0
           have hfz30_1 := blk_frozen BK966.out 1
           go_wp2_with (first | ((with_reducible refine gate_callee (f := 117) rfl ?_); refine goesL_ (some 27) rfl rfl Try.func117 (by kernel_rfl) rfl #[.int .i64 x4_1] rfl (by (try simp only [List.map_toArray, List.map_cons, List.map_nil]); first | done | rfl | (simp only [List.length_drop, List.length_take]; rfl)) ?_; (with_reducible refine (spec_l1Abs.calls x4_1 t967 _ A7.out).mono ?_); rintro e w' ⟨rfl, ⟨nd, rfl⟩⟩; refine ⟨_, rfl, ?_⟩) | ((with_reducible refine gate_callee (f := 117) rfl ?_); refine goesL_ (some 29) rfl rfl Try.func117 (by kernel_rfl) rfl #[.int .i64 x5_2] rfl (by (try simp only [List.map_toArray, List.map_cons, List.map_nil]); first | done | rfl | (simp only [List.length_drop, List.length_take]; rfl)) ?_; (with_reducible refine (spec_l1Abs.calls x5_2 t968 _ A8.out).mono ?_); rintro e w' ⟨rfl, ⟨nd, rfl⟩⟩; refine ⟨_, rfl, ?_⟩) | ((with_reducible refine gate_dst (N := 55) rfl ?_); refine Kd.R_lit (Kd.int .i64) _ 3 ?hg (N := 55) ?hd (xs := ([x4_1, x5_2] : List Int)) (inner := [.int .i64 x4_1, .int .i64 x5_2]) (ok := fun _ => True) (okp := fun _ => True) ?hr ?hp (fun _ hk => hk) trivial (Below.refl _ _) (Nat.le_refl _) (by simp) ?_; (case hd => rfl); (case hg => rfl); (case hr => first | (go_simp; done) | (go_simp; rfl)); (case hp => exact (Reps.one (show Kd.M (Kd.int .i64) _ _ _ x4_1 [.int .i64 x4_1] from rfl) (Reps.one (show Kd.M (Kd.int .i64) _ _ _ x5_2 [.int .i64 x5_2] from rfl) (Reps.none _ _)))); intro v982 w31 ho32 hb hg_ hnew_; clear hg_ hnew_; (first | rw [← Ny981.out] at ho32 | (simp only [Int.reduceToNat] at ho32; rw [← Ny981.out] at ho32)); have n0_ := Aside0.mk (Kd.S_elder' (by (with_reducible repeat (first | apply Kd.S_alloc | apply Kd.S_drewN | apply Kd.S_drew)); exact HO_3.out) (Kd.R_base ho32) hb); have n1_ := Aside0.mk (Kd.R_lower ho32 (below_size (by repeat (first | (with_reducible first | exact HB.out | apply below_alloc | apply pw_below_drewN | apply below_drew1 | refine below_set ?_ GE966.out) | exact HB.out)))); have n2_ := Aside0.mk (blk_below (g := gb966) (o := .cells #[.int .i64 a0_0, .int .i64 a0_1] 32 (0, 0)) (by (with_reducible repeat (first | refine blk_drewN ?_ _ | refine blk_drew ?_ | refine blk_alloc ?_ _)); exact BK966.out) hb); have n3_ := Aside0.mk (below_step (by repeat (first | (with_reducible first | exact HB.out | apply below_alloc | apply pw_below_drewN | apply below_drew1 | refine below_set ?_ GE966.out) | exact HB.out)) hb); clear HO_3; clear BK966; clear HB; have HO_3 := n0_; have HO983 := n1_; have BK966 := n2_; have HB := n3_; clear n0_ n1_ n2_ n3_; clear hb ho32; obtain ⟨Ao34, co34, eo34⟩ := Kd.R_slice HO983.out; subst eo34) | ((with_reducible refine gate_builtin (b := .append) (xs := #[.tmp 52, .tmp 56]) rfl ?_); at_builtin; refine Kd.S_append (Kd.slice 3 (Kd.int .i64)) (w0 := w) w.heap.size rfl (.tmp 52) (.tmp 56) 63 22 (.slice none 0 0) 24 rfl Try.underlying63 info22 rfl (by decide) (by omega) u3 x3_2 y981 [.slice Ao34 y981.length co34] (fun _ => True) (fun k_ => some k_ = (.slice Ao34 y981.length co34 : Value).ownBlock) rfl rfl ?aP (fun k_ hk_ => ((Kd.R_mono (ok' := fun k_ => ((fun _ => True)) k_ ∧ some k_ ≠ (u3 : Value).ownBlock) (Kd.R_apart' (HO983.out) (Kd.S_typed HO_3.out) (by decide)) (fun k_ hk => ⟨trivial, hk.2⟩))).1 k_ hk_.symm) ?aF ?aO ?aB ?aS ?aL ?_; (case aP => exact Kd.M_row (Kd.R_mono (Kd.R_tight rfl (Kd.R_mono (ok' := fun k_ => ((fun _ => True)) k_ ∧ some k_ ≠ (u3 : Value).ownBlock) (Kd.R_apart' (HO983.out) (Kd.S_typed HO_3.out) (by decide)) (fun k_ hk => ⟨trivial, hk.2⟩))) (fun _ h_ => h_))); (case aB => exact (by repeat (first | (with_reducible first | exact HB.out | apply below_alloc | apply pw_below_drewN | apply below_drew1 | refine below_set ?_ GE966.out) | exact HB.out))); (case aF => exact (fun _ _ => trivial)); (case aO => exact (by (with_reducible repeat (first | apply Kd.S_alloc | apply Kd.S_drewN | apply Kd.S_drew)); exact Kd.S_mono HO_3.out (fun k_ hk => ⟨trivial, fun e_ => hk.2 e_⟩))); (case aS => exact (below_size (by repeat (first | (with_reducible first | exact HB.out | apply below_alloc | apply pw_below_drewN | apply below_drew1 | refine below_set ?_ GE966.out) | exact HB.out)))); (case aL => have := LMc29.out; omega); intro v985 w33 ho hb hg hat; rw [← Ny984.out] at ho; have n0_ := Aside0.mk (blk_grown (g := gb966) (o := .cells #[.int .i64 a0_0, .int .i64 a0_1] 32 (0, 0)) (by (with_reducible repeat (first | refine blk_drewN ?_ _ | refine blk_drew ?_ | refine blk_alloc ?_ _)); exact BK966.out) hg (Kd.S_ne HO_3.out BK966.out (by decide))); have n1_ := Aside0.mk (hb); have n2_ := Aside0.mk (ho); clear BK966; clear HB; clear HO_3; clear HO983; have BK966 := n0_; have HB := n1_; have HO986 := n2_; clear n0_ n1_ n2_; clear ho hb hg hat))
           go_roundg k2
           case measure => have := HK1.out; have := HK2.out; omega
           case rel => exact ⟨(y984), (wrap64 (x5_2 + 1)), (by first | rfl | (simp; done) | (simp [*]; done)), H', ⟨by have := HK1.out; have := HK2.out; omega⟩, ⟨by (with_reducible repeat (first | apply Kd.S_alloc | apply Kd.S_drewN | apply Kd.S_drew)); exact HO986.out⟩, ⟨by (with_reducible repeat (first | refine blk_drewN ?_ _ | refine blk_drew ?_ | refine blk_alloc ?_ _)); exact BK966.out⟩, ⟨by repeat (first | (with_reducible first | exact HB.out | apply below_alloc | apply pw_below_drewN | apply below_drew1 | refine below_set ?_ GE966.out) | exact HB.out)⟩⟩
          ·rw [if_neg c29] at H
           exact absurd H (by simp)
         ·rw [if_neg c28] at H
          have c28b0 : (t968 == a0_0) = false := beq_eq_false_iff_ne.mpr c28
          have c28b1 : (t968 != a0_0) = true := bne_iff_ne.mpr c28
          have H' := Aside0.mk H
          clear H
          have hcz35_0 : wr.cell? ⟨gb966, 0, none⟩ = some (.int .i64 a0_0) := (blk_cell BK966.out 0).trans rfl
          have hcz35_1 : wr.cell? ⟨gb966, 1, none⟩ = some (.int .i64 a0_1) := (blk_cell BK966.out 1).trans rfl
          have hfz35_0 := blk_frozen BK966.out 0
          have hfz35_1 := blk_frozen BK966.out 1
          go_wp2_with (first | ((with_reducible refine gate_callee (f := 117) rfl ?_); refine goesL_ (some 27) rfl rfl Try.func117 (by kernel_rfl) rfl #[.int .i64 x4_1] rfl (by (try simp only [List.map_toArray, List.map_cons, List.map_nil]); first | done | rfl | (simp only [List.length_drop, List.length_take]; rfl)) ?_; (with_reducible refine (spec_l1Abs.calls x4_1 t967 _ A7.out).mono ?_); rintro e w' ⟨rfl, ⟨nd, rfl⟩⟩; refine ⟨_, rfl, ?_⟩) | ((with_reducible refine gate_callee (f := 117) rfl ?_); refine goesL_ (some 29) rfl rfl Try.func117 (by kernel_rfl) rfl #[.int .i64 x5_2] rfl (by (try simp only [List.map_toArray, List.map_cons, List.map_nil]); first | done | rfl | (simp only [List.length_drop, List.length_take]; rfl)) ?_; (with_reducible refine (spec_l1Abs.calls x5_2 t968 _ A8.out).mono ?_); rintro e w' ⟨rfl, ⟨nd, rfl⟩⟩; refine ⟨_, rfl, ?_⟩))
          go_roundg k2
          case measure => have := HK1.out; have := HK2.out; omega
          case rel => exact ⟨(x3_2), (wrap64 (x5_2 + 1)), (by first | rfl | (simp; done) | (simp [*]; done)), H', ⟨by have := HK1.out; have := HK2.out; omega⟩, ⟨by (with_reducible repeat (first | apply Kd.S_alloc | apply Kd.S_drewN | apply Kd.S_drew)); exact HO_3.out⟩, ⟨by (with_reducible repeat (first | refine blk_drewN ?_ _ | refine blk_drew ?_ | refine blk_alloc ?_ _)); exact BK966.out⟩, ⟨by repeat (first | (with_reducible first | exact HB.out | apply below_alloc | apply pw_below_drewN | apply below_drew1 | refine below_set ?_ GE966.out) | exact HB.out)⟩⟩
        ·rw [if_neg c27] at H
         have c27b0 : (t967 == a0_1) = false := beq_eq_false_iff_ne.mpr c27
         have c27b1 : (t967 != a0_1) = true := bne_iff_ne.mpr c27
         have H' := Aside0.mk H
         clear H
         have hcz36_0 : wr.cell? ⟨gb966, 0, none⟩ = some (.int .i64 a0_0) := (blk_cell BK966.out 0).trans rfl
         have hcz36_1 : wr.cell? ⟨gb966, 1, none⟩ = some (.int .i64 a0_1) := (blk_cell BK966.out 1).trans rfl
         have hfz36_0 := blk_frozen BK966.out 0
         have hfz36_1 := blk_frozen BK966.out 1
         go_wp2_with (first | ((with_reducible refine gate_callee (f := 117) rfl ?_); refine goesL_ (some 27) rfl rfl Try.func117 (by kernel_rfl) rfl #[.int .i64 x4_1] rfl (by (try simp only [List.map_toArray, List.map_cons, List.map_nil]); first | done | rfl | (simp only [List.length_drop, List.length_take]; rfl)) ?_; (with_reducible refine (spec_l1Abs.calls x4_1 t967 _ A7.out).mono ?_); rintro e w' ⟨rfl, ⟨nd, rfl⟩⟩; refine ⟨_, rfl, ?_⟩) | ((with_reducible refine gate_callee (f := 117) rfl ?_); refine goesL_ (some 29) rfl rfl Try.func117 (by kernel_rfl) rfl #[.int .i64 x5_2] rfl (by (try simp only [List.map_toArray, List.map_cons, List.map_nil]); first | done | rfl | (simp only [List.length_drop, List.length_take]; rfl)) ?_; (with_reducible refine (spec_l1Abs.calls x5_2 t968 _ A8.out).mono ?_); rintro e w' ⟨rfl, ⟨nd, rfl⟩⟩; refine ⟨_, rfl, ?_⟩))
         go_roundg k2
         case measure => have := HK1.out; have := HK2.out; omega
         case rel => exact ⟨(x3_2), (wrap64 (x5_2 + 1)), (by first | rfl | (simp; done) | (simp [*]; done)), H', ⟨by have := HK1.out; have := HK2.out; omega⟩, ⟨by (with_reducible repeat (first | apply Kd.S_alloc | apply Kd.S_drewN | apply Kd.S_drew)); exact HO_3.out⟩, ⟨by (with_reducible repeat (first | refine blk_drewN ?_ _ | refine blk_drew ?_ | refine blk_alloc ?_ _)); exact BK966.out⟩, ⟨by repeat (first | (with_reducible first | exact HB.out | apply below_alloc | apply pw_below_drewN | apply below_drew1 | refine below_set ?_ GE966.out) | exact HB.out)⟩⟩
      ·rw [if_neg c6] at H
       have c6b0 : decide (x5_2 ≤ a0_1) = false := decide_eq_false c6
       clear c6
       have H' := Aside0.mk H
       clear H
       have hcz37_0 : wr.cell? ⟨gb966, 0, none⟩ = some (.int .i64 a0_0) := (blk_cell BK966.out 0).trans rfl
       have hcz37_1 : wr.cell? ⟨gb966, 1, none⟩ = some (.int .i64 a0_1) := (blk_cell BK966.out 1).trans rfl
       have hfz37_0 := blk_frozen BK966.out 0
       have hfz37_1 := blk_frozen BK966.out 1
       go_wp2
       go_roundg k2
       case measure => have := HK1.out; have := HK2.out; omega
       case rel => exact ⟨(x3_2), (wrap64 (x4_1 + 1)), (by first | rfl | (simp; done) | (simp [*]; done)), H', ⟨by have := HK1.out; have := HK2.out; omega⟩, ⟨by (with_reducible repeat (first | apply Kd.S_alloc | apply Kd.S_drewN | apply Kd.S_drew)); exact HO_3.out⟩, ⟨by (with_reducible repeat (first | refine blk_drewN ?_ _ | refine blk_drew ?_ | refine blk_alloc ?_ _)); exact BK966.out⟩, ⟨by repeat (first | (with_reducible first | exact HB.out | apply below_alloc | apply pw_below_drewN | apply below_drew1 | refine below_set ?_ GE966.out) | exact HB.out)⟩⟩
   ·rw [if_neg c4] at H
    have c4b0 : decide (x4_1 ≤ a0_1) = false := decide_eq_false c4
    clear c4
    obtain rfl := Option.some.inj H
    have hcz38_0 : wr.cell? ⟨gb966, 0, none⟩ = some (.int .i64 a0_0) := (blk_cell BK966.out 0).trans rfl
    have hcz38_1 : wr.cell? ⟨gb966, 1, none⟩ = some (.int .i64 a0_1) := (blk_cell BK966.out 1).trans rfl
    have hfz38_0 := blk_frozen BK966.out 0
    have hfz38_1 := blk_frozen BK966.out 1
    go_wp2
    go_ret
    exact ⟨_, by first | rfl | (simp [errW_none, errW_some] <;> rfl) | (simp [*, errW_none, errW_some] <;> rfl), by (with_reducible repeat (first | apply Kd.S_alloc | apply Kd.S_drewN | apply Kd.S_drew)); exact HO_3.out, by repeat (first | (with_reducible first | exact HB.out | apply below_alloc | apply pw_below_drewN | apply below_drew1 | refine below_set ?_ GE966.out) | exact HB.out)⟩

/-! ### spec_arStep: function 125 -/
mutual
def spec_arStep.j0 : Nat → Int → Int → Int → Int → Bool → Bool → Option (Int)
 | 0, _, _, _, _, _, _ => none
 | k + 1, x9, x10, x988000, x988001, x988002, x988003 => if x988003 = true then (if x988001 = 0 then (none) else (spec_arStep.j1 k x9 (Int.tmod (wrap64 ((Int.tmod x10 x988001) + x988001)) x988001) x988000 x988001 x988002 x988003)) else (spec_arStep.j1 k x9 x10 x988000 x988001 x988002 x988003)
def spec_arStep.j1 : Nat → Int → Int → Int → Int → Bool → Bool → Option (Int)
 | 0, _, _, _, _, _, _ => none
 | k + 1, x9, x10, x988000, x988001, x988002, x988003 => (spec_l1In.f x9 0 (wrap64 (x988000 - 1))).bind fun t988 => (if t988 = true then ((spec_l1In.f x10 0 (wrap64 (x988001 - 1))).bind fun t989 => (if t989 = true then (some (wrap64 ((wrap64 (x10 * x988000)) + x9))) else (some (-1)))) else (some (-1)))
end
def spec_arStep.f (k : Nat) (a0_0 : Int) (a0_1 : Int) (a0_2 : Bool) (a0_3 : Bool) (a1 : Int) (a2 : Int) (a3 : Int) : Option (Int) := if a0_0 = 0 then (none) else (if a0_2 = true then (spec_arStep.j0 k (Int.tmod (wrap64 ((Int.tmod (wrap64 ((Int.tmod a1 a0_0) + a2)) a0_0) + a0_0)) a0_0) (wrap64 ((wrap64 (Int.tdiv a1 a0_0)) + a3)) a0_0 a0_1 a0_2 a0_3) else (spec_arStep.j0 k (wrap64 ((Int.tmod a1 a0_0) + a2)) (wrap64 ((wrap64 (Int.tdiv a1 a0_0)) + a3)) a0_0 a0_1 a0_2 a0_3))
set_option maxHeartbeats 8000000 in
set_option maxRecDepth 100000 in
theorem spec_arStep.calls (k : Nat) (a0_0 : Int) (a0_1 : Int) (a0_2 : Bool) (a0_3 : Bool) (a1 : Int) (a2 : Int) (a3 : Int) (r : Int) (w : World) (h : spec_arStep.f k a0_0 a0_1 a0_2 a0_3 a1 a2 a3 = some r) :
  Calls Try.prog 125 #[.agg #[.int .i64 a0_0, .int .i64 a0_1, .bool a0_2, .bool a0_3], .int .i64 a1, .int .i64 a2, .int .i64 a3] w fun e w' => e = .returned (.int .i64 r) ∧ Below w.heap.size w w' := by
 have hu51 := Try.underlying51
 have HB := Aside0.mk (Below.refl w.heap.size w)
 have H : (if a0_0 = 0 then (none) else (if a0_2 = true then (spec_arStep.j0 k (Int.tmod (wrap64 ((Int.tmod (wrap64 ((Int.tmod a1 a0_0) + a2)) a0_0) + a0_0)) a0_0) (wrap64 ((wrap64 (Int.tdiv a1 a0_0)) + a3)) a0_0 a0_1 a0_2 a0_3) else (spec_arStep.j0 k (wrap64 ((Int.tmod a1 a0_0) + a2)) (wrap64 ((wrap64 (Int.tdiv a1 a0_0)) + a3)) a0_0 a0_1 a0_2 a0_3))) = some r := h
 clear h
 by_cases c5 : a0_0 = 0
 ·rw [if_pos c5] at H
  exact absurd H (by simp)
 ·rw [if_neg c5] at H
  have c5b0 : (a0_0 == 0) = false := beq_eq_false_iff_ne.mpr c5
  have c5b1 : (a0_0 != 0) = true := bne_iff_ne.mpr c5
  have HC6 := Aside0.mk H
  clear H
  go_enter Try.func125, Try.ntmps125
  go_upto_if 24 with (first | ((with_reducible refine gate_dst (N := 4) rfl ?_); refine box_event ?hg (N := 4) ?hd (cs := #[.int .i64 a0_0, .int .i64 a0_1, .bool a0_2, .bool a0_3]) (t := 51) ?hr ?_; (case hd => rfl); (case hg => rfl); (case hr => first | (go_simp; done) | (go_simp; rfl)); intro gb987 hg w7 hbox hb; have n0_ := Aside0.mk (below_step (by repeat (first | (with_reducible first | exact HB.out | apply below_alloc | apply pw_below_drewN | apply below_drew1) | exact HB.out)) hb); have n1_ := Aside0.mk (hbox); have n2_ := Aside0.mk ((by rw [hg]; exact (below_size (by repeat (first | (with_reducible first | exact HB.out | apply below_alloc | apply pw_below_drewN | apply below_drew1) | exact HB.out))) : w.heap.size ≤ gb987)); have n3_ := Aside0.mk ((by rw [hg]; exact (below_size (by repeat (first | (with_reducible first | exact HB.out | apply below_alloc | apply pw_below_drewN | apply below_drew1) | exact HB.out))) : w.heap.size ≤ gb987)); clear HB; have HB := n0_; have BK987 := n1_; have GW987 := n2_; have GE987 := n3_; clear n0_ n1_ n2_ n3_; clear hb hbox hg; have hcz8_0 : w7.cell? ⟨gb987, 0, none⟩ = some (.int .i64 a0_0) := (blk_cell BK987.out 0).trans rfl; have hcz8_1 : w7.cell? ⟨gb987, 1, none⟩ = some (.int .i64 a0_1) := (blk_cell BK987.out 1).trans rfl; have hcz8_2 : w7.cell? ⟨gb987, 2, none⟩ = some (.bool a0_2) := (blk_cell BK987.out 2).trans rfl; have hcz8_3 : w7.cell? ⟨gb987, 3, none⟩ = some (.bool a0_3) := (blk_cell BK987.out 3).trans rfl; have hfz8_0 := blk_frozen BK987.out 0; have hfz8_1 := blk_frozen BK987.out 1; have hfz8_2 := blk_frozen BK987.out 2; have hfz8_3 := blk_frozen BK987.out 3))
  repeat ((first | go_quiet (first | ((with_reducible refine gate_dst (N := 4) rfl ?_); refine box_event ?hg (N := 4) ?hd (cs := #[.int .i64 a0_0, .int .i64 a0_1, .bool a0_2, .bool a0_3]) (t := 51) ?hr ?_; (case hd => rfl); (case hg => rfl); (case hr => first | (go_simp; done) | (go_simp; rfl)); intro gb987 hg w7 hbox hb; have n0_ := Aside0.mk (below_step (by repeat (first | (with_reducible first | exact HB.out | apply below_alloc | apply pw_below_drewN | apply below_drew1) | exact HB.out)) hb); have n1_ := Aside0.mk (hbox); have n2_ := Aside0.mk ((by rw [hg]; exact (below_size (by repeat (first | (with_reducible first | exact HB.out | apply below_alloc | apply pw_below_drewN | apply below_drew1) | exact HB.out))) : w.heap.size ≤ gb987)); have n3_ := Aside0.mk ((by rw [hg]; exact (below_size (by repeat (first | (with_reducible first | exact HB.out | apply below_alloc | apply pw_below_drewN | apply below_drew1) | exact HB.out))) : w.heap.size ≤ gb987)); clear HB; have HB := n0_; have BK987 := n1_; have GW987 := n2_; have GE987 := n3_; clear n0_ n1_ n2_ n3_; clear hb hbox hg; have hcz8_0 : w7.cell? ⟨gb987, 0, none⟩ = some (.int .i64 a0_0) := (blk_cell BK987.out 0).trans rfl; have hcz8_1 : w7.cell? ⟨gb987, 1, none⟩ = some (.int .i64 a0_1) := (blk_cell BK987.out 1).trans rfl; have hcz8_2 : w7.cell? ⟨gb987, 2, none⟩ = some (.bool a0_2) := (blk_cell BK987.out 2).trans rfl; have hcz8_3 : w7.cell? ⟨gb987, 3, none⟩ = some (.bool a0_3) := (blk_cell BK987.out 3).trans rfl; have hfz8_0 := blk_frozen BK987.out 0; have hfz8_1 := blk_frozen BK987.out 1; have hfz8_2 := blk_frozen BK987.out 2; have hfz8_3 := blk_frozen BK987.out 3)) | (refine wp_region_quiet_lit (by kernel_rfl) (by kernel_rfl) ?_; (repeat (any_goals (first | go_big_quiet_step (first | ((with_reducible refine gate_dst (N := 4) rfl ?_); refine box_event ?hg (N := 4) ?hd (cs := #[.int .i64 a0_0, .int .i64 a0_1, .bool a0_2, .bool a0_3]) (t := 51) ?hr ?_; (case hd => rfl); (case hg => rfl); (case hr => first | (go_simp; done) | (go_simp; rfl)); intro gb987 hg w7 hbox hb; have n0_ := Aside0.mk (below_step (by repeat (first | (with_reducible first | exact HB.out | apply below_alloc | apply pw_below_drewN | apply below_drew1) | exact HB.out)) hb); have n1_ := Aside0.mk (hbox); have n2_ := Aside0.mk ((by rw [hg]; exact (below_size (by repeat (first | (with_reducible first | exact HB.out | apply below_alloc | apply pw_below_drewN | apply below_drew1) | exact HB.out))) : w.heap.size ≤ gb987)); have n3_ := Aside0.mk ((by rw [hg]; exact (below_size (by repeat (first | (with_reducible first | exact HB.out | apply below_alloc | apply pw_below_drewN | apply below_drew1) | exact HB.out))) : w.heap.size ≤ gb987)); clear HB; have HB := n0_; have BK987 := n1_; have GW987 := n2_; have GE987 := n3_; clear n0_ n1_ n2_ n3_; clear hb hbox hg; have hcz8_0 : w7.cell? ⟨gb987, 0, none⟩ = some (.int .i64 a0_0) := (blk_cell BK987.out 0).trans rfl; have hcz8_1 : w7.cell? ⟨gb987, 1, none⟩ = some (.int .i64 a0_1) := (blk_cell BK987.out 1).trans rfl; have hcz8_2 : w7.cell? ⟨gb987, 2, none⟩ = some (.bool a0_2) := (blk_cell BK987.out 2).trans rfl; have hcz8_3 : w7.cell? ⟨gb987, 3, none⟩ = some (.bool a0_3) := (blk_cell BK987.out 3).trans rfl; have hfz8_0 := blk_frozen BK987.out 0; have hfz8_1 := blk_frozen BK987.out 1; have hfz8_2 := blk_frozen BK987.out 2; have hfz8_3 := blk_frozen BK987.out 3)) | quiet_step (first | ((with_reducible refine gate_dst (N := 4) rfl ?_); refine box_event ?hg (N := 4) ?hd (cs := #[.int .i64 a0_0, .int .i64 a0_1, .bool a0_2, .bool a0_3]) (t := 51) ?hr ?_; (case hd => rfl); (case hg => rfl); (case hr => first | (go_simp; done) | (go_simp; rfl)); intro gb987 hg w7 hbox hb; have n0_ := Aside0.mk (below_step (by repeat (first | (with_reducible first | exact HB.out | apply below_alloc | apply pw_below_drewN | apply below_drew1) | exact HB.out)) hb); have n1_ := Aside0.mk (hbox); have n2_ := Aside0.mk ((by rw [hg]; exact (below_size (by repeat (first | (with_reducible first | exact HB.out | apply below_alloc | apply pw_below_drewN | apply below_drew1) | exact HB.out))) : w.heap.size ≤ gb987)); have n3_ := Aside0.mk ((by rw [hg]; exact (below_size (by repeat (first | (with_reducible first | exact HB.out | apply below_alloc | apply pw_below_drewN | apply below_drew1) | exact HB.out))) : w.heap.size ≤ gb987)); clear HB; have HB := n0_; have BK987 := n1_; have GW987 := n2_; have GE987 := n3_; clear n0_ n1_ n2_ n3_; clear hb hbox hg; have hcz8_0 : w7.cell? ⟨gb987, 0, none⟩ = some (.int .i64 a0_0) := (blk_cell BK987.out 0).trans rfl; have hcz8_1 : w7.cell? ⟨gb987, 1, none⟩ = some (.int .i64 a0_1) := (blk_cell BK987.out 1).trans rfl; have hcz8_2 : w7.cell? ⟨gb987, 2, none⟩ = some (.bool a0_2) := (blk_cell BK987.out 2).trans rfl; have hcz8_3 : w7.cell? ⟨gb987, 3, none⟩ = some (.bool a0_3) := (blk_cell BK987.out 3).trans rfl; have hfz8_0 := blk_frozen BK987.out 0; have hfz8_1 := blk_frozen BK987.out 1; have hfz8_2 := blk_frozen BK987.out 2; have hfz8_3 := blk_frozen BK987.out 3))))); all_goals (refine wpQuiet_nil ?_; intro _ hw2_; obtain ⟨nq, hw3_⟩ := hw2_; subst hw3_))); go_upto_if 24 with (first | ((with_reducible refine gate_dst (N := 4) rfl ?_); refine box_event ?hg (N := 4) ?hd (cs := #[.int .i64 a0_0, .int .i64 a0_1, .bool a0_2, .bool a0_3]) (t := 51) ?hr ?_; (case hd => rfl); (case hg => rfl); (case hr => first | (go_simp; done) | (go_simp; rfl)); intro gb987 hg w7 hbox hb; have n0_ := Aside0.mk (below_step (by repeat (first | (with_reducible first | exact HB.out | apply below_alloc | apply pw_below_drewN | apply below_drew1) | exact HB.out)) hb); have n1_ := Aside0.mk (hbox); have n2_ := Aside0.mk ((by rw [hg]; exact (below_size (by repeat (first | (with_reducible first | exact HB.out | apply below_alloc | apply pw_below_drewN | apply below_drew1) | exact HB.out))) : w.heap.size ≤ gb987)); have n3_ := Aside0.mk ((by rw [hg]; exact (below_size (by repeat (first | (with_reducible first | exact HB.out | apply below_alloc | apply pw_below_drewN | apply below_drew1) | exact HB.out))) : w.heap.size ≤ gb987)); clear HB; have HB := n0_; have BK987 := n1_; have GW987 := n2_; have GE987 := n3_; clear n0_ n1_ n2_ n3_; clear hb hbox hg; have hcz8_0 : w7.cell? ⟨gb987, 0, none⟩ = some (.int .i64 a0_0) := (blk_cell BK987.out 0).trans rfl; have hcz8_1 : w7.cell? ⟨gb987, 1, none⟩ = some (.int .i64 a0_1) := (blk_cell BK987.out 1).trans rfl; have hcz8_2 : w7.cell? ⟨gb987, 2, none⟩ = some (.bool a0_2) := (blk_cell BK987.out 2).trans rfl; have hcz8_3 : w7.cell? ⟨gb987, 3, none⟩ = some (.bool a0_3) := (blk_cell BK987.out 3).trans rfl; have hfz8_0 := blk_frozen BK987.out 0; have hfz8_1 := blk_frozen BK987.out 1; have hfz8_2 := blk_frozen BK987.out 2; have hfz8_3 := blk_frozen BK987.out 3)))
  (try simp only [Act.put, List.setIfInBounds_toArray, List.set_cons_zero, List.set_cons_succ])
  go_cut [9] (fun v9 wc => ∃ (kq : Nat) (x9_5 : Int), v9 = .int .i64 x9_5 ∧ Aside0 (spec_arStep.j0 kq x9_5 (wrap64 ((wrap64 (Int.tdiv a1 a0_0)) + a3)) a0_0 a0_1 a0_2 a0_3 = some r) ∧ Aside0 (kq ≤ k) ∧ Aside0 (wc.heap[gb987]? = some (.cells #[.int .i64 a0_0, .int .i64 a0_1, .bool a0_2, .bool a0_3] 51 (0, 0))) ∧ Aside0 (Below w.heap.size w wc))
  case first =>
   have H := HC6.out
   clear HC6
   by_cases c9 : a0_2 = true
   ·subst c9
    have H1 : (spec_arStep.j0 k (Int.tmod (wrap64 ((Int.tmod (wrap64 ((Int.tmod a1 a0_0) + a2)) a0_0) + a0_0)) a0_0) (wrap64 ((wrap64 (Int.tdiv a1 a0_0)) + a3)) a0_0 a0_1 true a0_3) = some r := by rw [if_pos rfl] at H; exact H
    clear H
    have H := H1
    clear H1
    have H' := Aside0.mk H
    clear H
    have hcz10_0 : w7.cell? ⟨gb987, 0, none⟩ = some (.int .i64 a0_0) := (blk_cell BK987.out 0).trans rfl
    have hcz10_1 : w7.cell? ⟨gb987, 1, none⟩ = some (.int .i64 a0_1) := (blk_cell BK987.out 1).trans rfl
    have hcz10_2 : w7.cell? ⟨gb987, 2, none⟩ = some (.bool true) := (blk_cell BK987.out 2).trans rfl
    have hcz10_3 : w7.cell? ⟨gb987, 3, none⟩ = some (.bool a0_3) := (blk_cell BK987.out 3).trans rfl
    have hfz10_0 := blk_frozen BK987.out 0
    have hfz10_1 := blk_frozen BK987.out 1
    have hfz10_2 := blk_frozen BK987.out 2
    have hfz10_3 := blk_frozen BK987.out 3
    go_wp2
    repeat ((first | go_quiet (fail) | (refine wp_region_quiet_lit (by kernel_rfl) (by kernel_rfl) ?_; (repeat (any_goals (first | go_big_quiet_step (fail) | quiet_step (fail)))); all_goals (refine wpQuiet_nil ?_; intro _ hw2_; obtain ⟨nq, hw3_⟩ := hw2_; subst hw3_))); try go_wp2)
    go_meet
    case rel => exact ⟨_, (Int.tmod (wrap64 ((Int.tmod (wrap64 ((Int.tmod a1 a0_0) + a2)) a0_0) + a0_0)) a0_0), (by first | rfl | (simp; done) | (simp [*]; done)), H', ⟨by first | omega | exact Nat.le_refl _⟩, ⟨by (with_reducible repeat (first | refine blk_drewN ?_ _ | refine blk_drew ?_ | refine blk_alloc ?_ _)); exact BK987.out⟩, ⟨by repeat (first | (with_reducible first | exact HB.out | apply below_alloc | apply pw_below_drewN | apply below_drew1 | refine below_set ?_ GE987.out) | exact HB.out)⟩⟩
   ·replace c9 := Bool.eq_false_iff.mpr c9
    subst c9
    have H1 : (spec_arStep.j0 k (wrap64 ((Int.tmod a1 a0_0) + a2)) (wrap64 ((wrap64 (Int.tdiv a1 a0_0)) + a3)) a0_0 a0_1 false a0_3) = some r := by rw [if_neg (show ¬ (false = true) by decide)] at H; exact H
    clear H
    have H := H1
    clear H1
    have H' := Aside0.mk H
    clear H
    go_wp2
    repeat ((first | go_quiet (fail) | (refine wp_region_quiet_lit (by kernel_rfl) (by kernel_rfl) ?_; (repeat (any_goals (first | go_big_quiet_step (fail) | quiet_step (fail)))); all_goals (refine wpQuiet_nil ?_; intro _ hw2_; obtain ⟨nq, hw3_⟩ := hw2_; subst hw3_))); try go_wp2)
    go_meet
    case rel => exact ⟨_, (wrap64 ((Int.tmod a1 a0_0) + a2)), (by first | rfl | (simp; done) | (simp [*]; done)), H', ⟨by first | omega | exact Nat.le_refl _⟩, ⟨by (with_reducible repeat (first | refine blk_drewN ?_ _ | refine blk_drew ?_ | refine blk_alloc ?_ _)); exact BK987.out⟩, ⟨by repeat (first | (with_reducible first | exact HB.out | apply below_alloc | apply pw_below_drewN | apply below_drew1 | refine below_set ?_ GE987.out) | exact HB.out)⟩⟩
  case rest =>
   clear HC6
   try clear c1; try clear p2; try clear c5; try clear c5b0; try clear c5b1; try clear p6; try clear c9; try clear hcz10_0; try clear hcz10_1; try clear hcz10_2; try clear hcz10_3; try clear hcz8_0; try clear hcz8_1; try clear hcz8_2; try clear hcz8_3; try clear hfz10_0; try clear hfz10_1; try clear hfz10_2; try clear hfz10_3; try clear hfz8_0; try clear hfz8_1; try clear hfz8_2; try clear hfz8_3
   obtain ⟨kq, x9_5, rfl, HA, HJ5, BK987, HB⟩ := hcut
   cases kq with
   | zero => exact absurd HA.out (by simp [spec_arStep.j0])
   | succ kj5 =>
    have H := HA.out
    clear HA
    simp only [spec_arStep.j0] at H
    have HC11 := Aside0.mk H
    clear H
    have hcz12_0 : wc.cell? ⟨gb987, 0, none⟩ = some (.int .i64 a0_0) := (blk_cell BK987.out 0).trans rfl
    have hcz12_1 : wc.cell? ⟨gb987, 1, none⟩ = some (.int .i64 a0_1) := (blk_cell BK987.out 1).trans rfl
    have hcz12_2 : wc.cell? ⟨gb987, 2, none⟩ = some (.bool a0_2) := (blk_cell BK987.out 2).trans rfl
    have hcz12_3 : wc.cell? ⟨gb987, 3, none⟩ = some (.bool a0_3) := (blk_cell BK987.out 3).trans rfl
    have hfz12_0 := blk_frozen BK987.out 0
    have hfz12_1 := blk_frozen BK987.out 1
    have hfz12_2 := blk_frozen BK987.out 2
    have hfz12_3 := blk_frozen BK987.out 3
    go_upto_if 36 with (fail)
    repeat ((first | go_quiet (fail) | (refine wp_region_quiet_lit (by kernel_rfl) (by kernel_rfl) ?_; (repeat (any_goals (first | go_big_quiet_step (fail) | quiet_step (fail)))); all_goals (refine wpQuiet_nil ?_; intro _ hw2_; obtain ⟨nq, hw3_⟩ := hw2_; subst hw3_))); go_upto_if 36 with (fail))
    go_cut [10] (fun v10 wc => ∃ (kq : Nat) (x10_10 : Int), v10 = .int .i64 x10_10 ∧ Aside0 (spec_arStep.j1 kq x9_5 x10_10 a0_0 a0_1 a0_2 a0_3 = some r) ∧ Aside0 (kq ≤ kj5) ∧ Aside0 (wc.heap[gb987]? = some (.cells #[.int .i64 a0_0, .int .i64 a0_1, .bool a0_2, .bool a0_3] 51 (0, 0))) ∧ Aside0 (Below w.heap.size w wc))
    case first =>
     have H := HC11.out
     clear HC11
     by_cases c13 : a0_3 = true
     ·subst c13
      have H1 : (if a0_1 = 0 then (none) else (spec_arStep.j1 kj5 x9_5 (Int.tmod (wrap64 ((Int.tmod (wrap64 ((wrap64 (Int.tdiv a1 a0_0)) + a3)) a0_1) + a0_1)) a0_1) a0_0 a0_1 a0_2 true)) = some r := by rw [if_pos rfl] at H; exact H
      clear H
      have H := H1
      clear H1
      by_cases c14 : a0_1 = 0
      ·rw [if_pos c14] at H
       exact absurd H (by simp)
      ·rw [if_neg c14] at H
       have c14b0 : (a0_1 == 0) = false := beq_eq_false_iff_ne.mpr c14
       have c14b1 : (a0_1 != 0) = true := bne_iff_ne.mpr c14
       (first | rw [c14b0] | (simp only [i64_w, i32_w]; rw [c14b0]) | skip)
       have H' := Aside0.mk H
       clear H
       have hcz15_0 : wc.cell? ⟨gb987, 0, none⟩ = some (.int .i64 a0_0) := (blk_cell BK987.out 0).trans rfl
       have hcz15_1 : wc.cell? ⟨gb987, 1, none⟩ = some (.int .i64 a0_1) := (blk_cell BK987.out 1).trans rfl
       have hcz15_2 : wc.cell? ⟨gb987, 2, none⟩ = some (.bool a0_2) := (blk_cell BK987.out 2).trans rfl
       have hcz15_3 : wc.cell? ⟨gb987, 3, none⟩ = some (.bool true) := (blk_cell BK987.out 3).trans rfl
       have hfz15_0 := blk_frozen BK987.out 0
       have hfz15_1 := blk_frozen BK987.out 1
       have hfz15_2 := blk_frozen BK987.out 2
       have hfz15_3 := blk_frozen BK987.out 3
       go_wp2
       repeat ((first | go_quiet (fail) | (refine wp_region_quiet_lit (by kernel_rfl) (by kernel_rfl) ?_; (repeat (any_goals (first | go_big_quiet_step (fail) | quiet_step (fail)))); all_goals (refine wpQuiet_nil ?_; intro _ hw2_; obtain ⟨nq, hw3_⟩ := hw2_; subst hw3_))); try go_wp2)
       go_meet
       case rel => exact ⟨_, (Int.tmod (wrap64 ((Int.tmod (wrap64 ((wrap64 (Int.tdiv a1 a0_0)) + a3)) a0_1) + a0_1)) a0_1), (by first | rfl | (simp; done) | (simp [*]; done)), H', ⟨by have := HJ5.out; first | omega | exact Nat.le_refl _⟩, ⟨by (with_reducible repeat (first | refine blk_drewN ?_ _ | refine blk_drew ?_ | refine blk_alloc ?_ _)); exact BK987.out⟩, ⟨by repeat (first | (with_reducible first | exact HB.out | apply below_alloc | apply pw_below_drewN | apply below_drew1 | refine below_set ?_ GE987.out) | exact HB.out)⟩⟩
     ·replace c13 := Bool.eq_false_iff.mpr c13
      subst c13
      have H1 : (spec_arStep.j1 kj5 x9_5 (wrap64 ((wrap64 (Int.tdiv a1 a0_0)) + a3)) a0_0 a0_1 a0_2 false) = some r := by rw [if_neg (show ¬ (false = true) by decide)] at H; exact H
      clear H
      have H := H1
      clear H1
      have H' := Aside0.mk H
      clear H
      go_wp2
      repeat ((first | go_quiet (fail) | (refine wp_region_quiet_lit (by kernel_rfl) (by kernel_rfl) ?_; (repeat (any_goals (first | go_big_quiet_step (fail) | quiet_step (fail)))); all_goals (refine wpQuiet_nil ?_; intro _ hw2_; obtain ⟨nq, hw3_⟩ := hw2_; subst hw3_))); try go_wp2)
      go_meet
      case rel => exact ⟨_, ((wrap64 ((wrap64 (Int.tdiv a1 a0_0)) + a3))), (by first | rfl | (simp; done) | (simp [*]; done)), H', ⟨by have := HJ5.out; first | omega | exact Nat.le_refl _⟩, ⟨by (with_reducible repeat (first | refine blk_drewN ?_ _ | refine blk_drew ?_ | refine blk_alloc ?_ _)); exact BK987.out⟩, ⟨by repeat (first | (with_reducible first | exact HB.out | apply below_alloc | apply pw_below_drewN | apply below_drew1 | refine below_set ?_ GE987.out) | exact HB.out)⟩⟩
    case rest =>
     clear HC11
     try clear c1; try clear p2; try clear c5; try clear c5b0; try clear c5b1; try clear p6; try clear c9; try clear c12; try clear c13; try clear c14; try clear c14b0; try clear c14b1; try clear hcz10_0; try clear hcz10_1; try clear hcz10_2; try clear hcz10_3; try clear hcz12_0; try clear hcz12_1; try clear hcz12_2; try clear hcz12_3; try clear hcz15_0; try clear hcz15_1; try clear hcz15_2; try clear hcz15_3; try clear hcz8_0; try clear hcz8_1; try clear hcz8_2; try clear hcz8_3; try clear hfz10_0; try clear hfz10_1; try clear hfz10_2; try clear hfz10_3; try clear hfz12_0; try clear hfz12_1; try clear hfz12_2
     try clear hfz12_3; try clear hfz15_0; try clear hfz15_1; try clear hfz15_2; try clear hfz15_3; try clear hfz8_0; try clear hfz8_1; try clear hfz8_2; try clear hfz8_3; try clear p2; try clear p6
     obtain ⟨kq, x10_10, rfl, HA, HJ10, BK987, HB⟩ := hcut
     cases kq with
     | zero => exact absurd HA.out (by simp [spec_arStep.j1])
     | succ kj10 =>
      have H := HA.out
      clear HA
      simp only [spec_arStep.j1] at H
      replace H := Option.bind_eq_some_iff.mp H
      obtain ⟨t988, A160, H⟩ := H
      replace H : (if t988 = true then ((spec_l1In.f x10_10 0 (wrap64 (a0_1 - 1))).bind fun t989 => (if t989 = true then (some (wrap64 ((wrap64 (x10_10 * a0_0)) + x9_5))) else (some (-1)))) else (some (-1))) = some r := H
      have A16 := Aside0.mk A160
      clear A160
      by_cases c17 : t988 = true
      ·subst c17
       have H1 : ((spec_l1In.f x10_10 0 (wrap64 (a0_1 - 1))).bind fun t989 => (if t989 = true then (some (wrap64 ((wrap64 (x10_10 * a0_0)) + x9_5))) else (some (-1)))) = some r := by rw [if_pos rfl] at H; exact H
       clear H
       have H := H1
       clear H1
       replace H := Option.bind_eq_some_iff.mp H
       obtain ⟨t989, A180, H⟩ := H
       replace H : (if t989 = true then (some (wrap64 ((wrap64 (x10_10 * a0_0)) + x9_5))) else (some (-1))) = some r := H
       have A18 := Aside0.mk A180
       clear A180
       by_cases c19 : t989 = true
       ·subst c19
        have H1 : (some (wrap64 ((wrap64 (x10_10 * a0_0)) + x9_5))) = some r := by rw [if_pos rfl] at H; exact H
        clear H
        have H := H1
        clear H1
        obtain rfl := Option.some.inj H
        have hcz20_0 : wc.cell? ⟨gb987, 0, none⟩ = some (.int .i64 a0_0) := (blk_cell BK987.out 0).trans rfl
        have hcz20_1 : wc.cell? ⟨gb987, 1, none⟩ = some (.int .i64 a0_1) := (blk_cell BK987.out 1).trans rfl
        have hcz20_2 : wc.cell? ⟨gb987, 2, none⟩ = some (.bool a0_2) := (blk_cell BK987.out 2).trans rfl
        have hcz20_3 : wc.cell? ⟨gb987, 3, none⟩ = some (.bool a0_3) := (blk_cell BK987.out 3).trans rfl
        have hfz20_0 := blk_frozen BK987.out 0
        have hfz20_1 := blk_frozen BK987.out 1
        have hfz20_2 := blk_frozen BK987.out 2
        have hfz20_3 := blk_frozen BK987.out 3
        go_wp2_with (first | (go_at_call 63; (with_reducible refine (spec_l1In.calls x9_5 0 (wrap64 (a0_0 - 1)) true _ A16.out).mono ?_); rintro e w' ⟨rfl, ⟨nd, rfl⟩⟩; (try first | exact ⟨rfl, _, World.drewN_drewN _ _ _⟩ | exact ⟨rfl, _, Eq.trans (World.drewN_drewN _ _ _) (congrArg (World.drewN _) (Nat.add_assoc _ _ _))⟩)) | (go_at_call 63; (with_reducible refine (spec_l1In.calls x10_10 0 (wrap64 (a0_1 - 1)) true _ A18.out).mono ?_); rintro e w' ⟨rfl, ⟨nd, rfl⟩⟩; (try first | exact ⟨rfl, _, World.drewN_drewN _ _ _⟩ | exact ⟨rfl, _, Eq.trans (World.drewN_drewN _ _ _) (congrArg (World.drewN _) (Nat.add_assoc _ _ _))⟩)))
        repeat ((first | go_quiet (first | (go_at_call 63; (with_reducible refine (spec_l1In.calls x9_5 0 (wrap64 (a0_0 - 1)) true _ A16.out).mono ?_); rintro e w' ⟨rfl, ⟨nd, rfl⟩⟩; (try first | exact ⟨rfl, _, World.drewN_drewN _ _ _⟩ | exact ⟨rfl, _, Eq.trans (World.drewN_drewN _ _ _) (congrArg (World.drewN _) (Nat.add_assoc _ _ _))⟩)) | (go_at_call 63; (with_reducible refine (spec_l1In.calls x10_10 0 (wrap64 (a0_1 - 1)) true _ A18.out).mono ?_); rintro e w' ⟨rfl, ⟨nd, rfl⟩⟩; (try first | exact ⟨rfl, _, World.drewN_drewN _ _ _⟩ | exact ⟨rfl, _, Eq.trans (World.drewN_drewN _ _ _) (congrArg (World.drewN _) (Nat.add_assoc _ _ _))⟩))) | (refine wp_region_quiet_lit (by kernel_rfl) (by kernel_rfl) ?_; (repeat (any_goals (first | go_big_quiet_step (first | (go_at_call 63; (with_reducible refine (spec_l1In.calls x9_5 0 (wrap64 (a0_0 - 1)) true _ A16.out).mono ?_); rintro e w' ⟨rfl, ⟨nd, rfl⟩⟩; (try first | exact ⟨rfl, _, World.drewN_drewN _ _ _⟩ | exact ⟨rfl, _, Eq.trans (World.drewN_drewN _ _ _) (congrArg (World.drewN _) (Nat.add_assoc _ _ _))⟩)) | (go_at_call 63; (with_reducible refine (spec_l1In.calls x10_10 0 (wrap64 (a0_1 - 1)) true _ A18.out).mono ?_); rintro e w' ⟨rfl, ⟨nd, rfl⟩⟩; (try first | exact ⟨rfl, _, World.drewN_drewN _ _ _⟩ | exact ⟨rfl, _, Eq.trans (World.drewN_drewN _ _ _) (congrArg (World.drewN _) (Nat.add_assoc _ _ _))⟩))) | quiet_step (first | (go_at_call 63; (with_reducible refine (spec_l1In.calls x9_5 0 (wrap64 (a0_0 - 1)) true _ A16.out).mono ?_); rintro e w' ⟨rfl, ⟨nd, rfl⟩⟩; (try first | exact ⟨rfl, _, World.drewN_drewN _ _ _⟩ | exact ⟨rfl, _, Eq.trans (World.drewN_drewN _ _ _) (congrArg (World.drewN _) (Nat.add_assoc _ _ _))⟩)) | (go_at_call 63; (with_reducible refine (spec_l1In.calls x10_10 0 (wrap64 (a0_1 - 1)) true _ A18.out).mono ?_); rintro e w' ⟨rfl, ⟨nd, rfl⟩⟩; (try first | exact ⟨rfl, _, World.drewN_drewN _ _ _⟩ | exact ⟨rfl, _, Eq.trans (World.drewN_drewN _ _ _) (congrArg (World.drewN _) (Nat.add_assoc _ _ _))⟩)))))); all_goals (refine wpQuiet_nil ?_; intro _ hw2_; obtain ⟨nq, hw3_⟩ := hw2_; subst hw3_))); try go_wp2_with (first | (go_at_call 63; (with_reducible refine (spec_l1In.calls x9_5 0 (wrap64 (a0_0 - 1)) true _ A16.out).mono ?_); rintro e w' ⟨rfl, ⟨nd, rfl⟩⟩; (try first | exact ⟨rfl, _, World.drewN_drewN _ _ _⟩ | exact ⟨rfl, _, Eq.trans (World.drewN_drewN _ _ _) (congrArg (World.drewN _) (Nat.add_assoc _ _ _))⟩)) | (go_at_call 63; (with_reducible refine (spec_l1In.calls x10_10 0 (wrap64 (a0_1 - 1)) true _ A18.out).mono ?_); rintro e w' ⟨rfl, ⟨nd, rfl⟩⟩; (try first | exact ⟨rfl, _, World.drewN_drewN _ _ _⟩ | exact ⟨rfl, _, Eq.trans (World.drewN_drewN _ _ _) (congrArg (World.drewN _) (Nat.add_assoc _ _ _))⟩))))
        go_ret
        exact ⟨by first | rfl | (simp [errW_none, errW_some] <;> rfl) | (simp [*, errW_none, errW_some] <;> rfl), by repeat (first | (with_reducible first | exact HB.out | apply below_alloc | apply pw_below_drewN | apply below_drew1 | refine below_set ?_ GE987.out) | exact HB.out)⟩
       ·replace c19 := Bool.eq_false_iff.mpr c19
        subst c19
        have H1 : (some (-1)) = some r := by rw [if_neg (show ¬ (false = true) by decide)] at H; exact H
        clear H
        have H := H1
        clear H1
        obtain rfl := Option.some.inj H
        have hcz21_0 : wc.cell? ⟨gb987, 0, none⟩ = some (.int .i64 a0_0) := (blk_cell BK987.out 0).trans rfl
        have hcz21_1 : wc.cell? ⟨gb987, 1, none⟩ = some (.int .i64 a0_1) := (blk_cell BK987.out 1).trans rfl
        have hcz21_2 : wc.cell? ⟨gb987, 2, none⟩ = some (.bool a0_2) := (blk_cell BK987.out 2).trans rfl
        have hcz21_3 : wc.cell? ⟨gb987, 3, none⟩ = some (.bool a0_3) := (blk_cell BK987.out 3).trans rfl
        have hfz21_0 := blk_frozen BK987.out 0
        have hfz21_1 := blk_frozen BK987.out 1
        have hfz21_2 := blk_frozen BK987.out 2
        have hfz21_3 := blk_frozen BK987.out 3
        go_wp2_with (first | (go_at_call 63; (with_reducible refine (spec_l1In.calls x9_5 0 (wrap64 (a0_0 - 1)) true _ A16.out).mono ?_); rintro e w' ⟨rfl, ⟨nd, rfl⟩⟩; (try first | exact ⟨rfl, _, World.drewN_drewN _ _ _⟩ | exact ⟨rfl, _, Eq.trans (World.drewN_drewN _ _ _) (congrArg (World.drewN _) (Nat.add_assoc _ _ _))⟩)) | (go_at_call 63; (with_reducible refine (spec_l1In.calls x10_10 0 (wrap64 (a0_1 - 1)) false _ A18.out).mono ?_); rintro e w' ⟨rfl, ⟨nd, rfl⟩⟩; (try first | exact ⟨rfl, _, World.drewN_drewN _ _ _⟩ | exact ⟨rfl, _, Eq.trans (World.drewN_drewN _ _ _) (congrArg (World.drewN _) (Nat.add_assoc _ _ _))⟩)))
        repeat ((first | go_quiet (first | (go_at_call 63; (with_reducible refine (spec_l1In.calls x9_5 0 (wrap64 (a0_0 - 1)) true _ A16.out).mono ?_); rintro e w' ⟨rfl, ⟨nd, rfl⟩⟩; (try first | exact ⟨rfl, _, World.drewN_drewN _ _ _⟩ | exact ⟨rfl, _, Eq.trans (World.drewN_drewN _ _ _) (congrArg (World.drewN _) (Nat.add_assoc _ _ _))⟩)) | (go_at_call 63; (with_reducible refine (spec_l1In.calls x10_10 0 (wrap64 (a0_1 - 1)) false _ A18.out).mono ?_); rintro e w' ⟨rfl, ⟨nd, rfl⟩⟩; (try first | exact ⟨rfl, _, World.drewN_drewN _ _ _⟩ | exact ⟨rfl, _, Eq.trans (World.drewN_drewN _ _ _) (congrArg (World.drewN _) (Nat.add_assoc _ _ _))⟩))) | (refine wp_region_quiet_lit (by kernel_rfl) (by kernel_rfl) ?_; (repeat (any_goals (first | go_big_quiet_step (first | (go_at_call 63; (with_reducible refine (spec_l1In.calls x9_5 0 (wrap64 (a0_0 - 1)) true _ A16.out).mono ?_); rintro e w' ⟨rfl, ⟨nd, rfl⟩⟩; (try first | exact ⟨rfl, _, World.drewN_drewN _ _ _⟩ | exact ⟨rfl, _, Eq.trans (World.drewN_drewN _ _ _) (congrArg (World.drewN _) (Nat.add_assoc _ _ _))⟩)) | (go_at_call 63; (with_reducible refine (spec_l1In.calls x10_10 0 (wrap64 (a0_1 - 1)) false _ A18.out).mono ?_); rintro e w' ⟨rfl, ⟨nd, rfl⟩⟩; (try first | exact ⟨rfl, _, World.drewN_drewN _ _ _⟩ | exact ⟨rfl, _, Eq.trans (World.drewN_drewN _ _ _) (congrArg (World.drewN _) (Nat.add_assoc _ _ _))⟩))) | quiet_step (first | (go_at_call 63; (with_reducible refine (spec_l1In.calls x9_5 0 (wrap64 (a0_0 - 1)) true _ A16.out).mono ?_); rintro e w' ⟨rfl, ⟨nd, rfl⟩⟩; (try first | exact ⟨rfl, _, World.drewN_drewN _ _ _⟩ | exact ⟨rfl, _, Eq.trans (World.drewN_drewN _ _ _) (congrArg (World.drewN _) (Nat.add_assoc _ _ _))⟩)) | (go_at_call 63; (with_reducible refine (spec_l1In.calls x10_10 0 (wrap64 (a0_1 - 1)) false _ A18.out).mono ?_); rintro e w' ⟨rfl, ⟨nd, rfl⟩⟩; (try first | exact ⟨rfl, _, World.drewN_drewN _ _ _⟩ | exact ⟨rfl, _, Eq.trans (World.drewN_drewN _ _ _) (congrArg (World.drewN _) (Nat.add_assoc _ _ _))⟩)))))); all_goals (refine wpQuiet_nil ?_; intro _ hw2_; obtain ⟨nq, hw3_⟩ := hw2_; subst hw3_))); try go_wp2_with (first | (go_at_call 63; (with_reducible refine (spec_l1In.calls x9_5 0 (wrap64 (a0_0 - 1)) true _ A16.out).mono ?_); rintro e w' ⟨rfl, ⟨nd, rfl⟩⟩; (try first | exact ⟨rfl, _, World.drewN_drewN _ _ _⟩ | exact ⟨rfl, _, Eq.trans (World.drewN_drewN _ _ _) (congrArg (World.drewN _) (Nat.add_assoc _ _ _))⟩)) | (go_at_call 63; (with_reducible refine (spec_l1In.calls x10_10 0 (wrap64 (a0_1 - 1)) false _ A18.out).mono ?_); rintro e w' ⟨rfl, ⟨nd, rfl⟩⟩; (try first | exact ⟨rfl, _, World.drewN_drewN _ _ _⟩ | exact ⟨rfl, _, Eq.trans (World.drewN_drewN _ _ _) (congrArg (World.drewN _) (Nat.add_assoc _ _ _))⟩))))
        go_ret
        exact ⟨by first | rfl | (simp [errW_none, errW_some] <;> rfl) | (simp [*, errW_none, errW_some] <;> rfl), by repeat (first | (with_reducible first | exact HB.out | apply below_alloc | apply pw_below_drewN | apply below_drew1 | refine below_set ?_ GE987.out) | exact HB.out)⟩
      ·replace c17 := Bool.eq_false_iff.mpr c17
       subst c17
       have H1 : (some (-1)) = some r := by rw [if_neg (show ¬ (false = true) by decide)] at H; exact H
       clear H
       have H := H1
       clear H1
       obtain rfl := Option.some.inj H
       have hcz22_0 : wc.cell? ⟨gb987, 0, none⟩ = some (.int .i64 a0_0) := (blk_cell BK987.out 0).trans rfl
       have hcz22_1 : wc.cell? ⟨gb987, 1, none⟩ = some (.int .i64 a0_1) := (blk_cell BK987.out 1).trans rfl
       have hcz22_2 : wc.cell? ⟨gb987, 2, none⟩ = some (.bool a0_2) := (blk_cell BK987.out 2).trans rfl
       have hcz22_3 : wc.cell? ⟨gb987, 3, none⟩ = some (.bool a0_3) := (blk_cell BK987.out 3).trans rfl
       have hfz22_0 := blk_frozen BK987.out 0
       have hfz22_1 := blk_frozen BK987.out 1
       have hfz22_2 := blk_frozen BK987.out 2
       have hfz22_3 := blk_frozen BK987.out 3
       go_wp2_with (first | (go_at_call 63; (with_reducible refine (spec_l1In.calls x9_5 0 (wrap64 (a0_0 - 1)) false _ A16.out).mono ?_); rintro e w' ⟨rfl, ⟨nd, rfl⟩⟩; (try first | exact ⟨rfl, _, World.drewN_drewN _ _ _⟩ | exact ⟨rfl, _, Eq.trans (World.drewN_drewN _ _ _) (congrArg (World.drewN _) (Nat.add_assoc _ _ _))⟩)))
       repeat ((first | go_quiet (first | (go_at_call 63; (with_reducible refine (spec_l1In.calls x9_5 0 (wrap64 (a0_0 - 1)) false _ A16.out).mono ?_); rintro e w' ⟨rfl, ⟨nd, rfl⟩⟩; (try first | exact ⟨rfl, _, World.drewN_drewN _ _ _⟩ | exact ⟨rfl, _, Eq.trans (World.drewN_drewN _ _ _) (congrArg (World.drewN _) (Nat.add_assoc _ _ _))⟩))) | (refine wp_region_quiet_lit (by kernel_rfl) (by kernel_rfl) ?_; (repeat (any_goals (first | go_big_quiet_step (first | (go_at_call 63; (with_reducible refine (spec_l1In.calls x9_5 0 (wrap64 (a0_0 - 1)) false _ A16.out).mono ?_); rintro e w' ⟨rfl, ⟨nd, rfl⟩⟩; (try first | exact ⟨rfl, _, World.drewN_drewN _ _ _⟩ | exact ⟨rfl, _, Eq.trans (World.drewN_drewN _ _ _) (congrArg (World.drewN _) (Nat.add_assoc _ _ _))⟩))) | quiet_step (first | (go_at_call 63; (with_reducible refine (spec_l1In.calls x9_5 0 (wrap64 (a0_0 - 1)) false _ A16.out).mono ?_); rintro e w' ⟨rfl, ⟨nd, rfl⟩⟩; (try first | exact ⟨rfl, _, World.drewN_drewN _ _ _⟩ | exact ⟨rfl, _, Eq.trans (World.drewN_drewN _ _ _) (congrArg (World.drewN _) (Nat.add_assoc _ _ _))⟩)))))); all_goals (refine wpQuiet_nil ?_; intro _ hw2_; obtain ⟨nq, hw3_⟩ := hw2_; subst hw3_))); try go_wp2_with (first | (go_at_call 63; (with_reducible refine (spec_l1In.calls x9_5 0 (wrap64 (a0_0 - 1)) false _ A16.out).mono ?_); rintro e w' ⟨rfl, ⟨nd, rfl⟩⟩; (try first | exact ⟨rfl, _, World.drewN_drewN _ _ _⟩ | exact ⟨rfl, _, Eq.trans (World.drewN_drewN _ _ _) (congrArg (World.drewN _) (Nat.add_assoc _ _ _))⟩))))
       go_ret
       exact ⟨by first | rfl | (simp [errW_none, errW_some] <;> rfl) | (simp [*, errW_none, errW_some] <;> rfl), by repeat (first | (with_reducible first | exact HB.out | apply below_alloc | apply pw_below_drewN | apply below_drew1 | refine below_set ?_ GE987.out) | exact HB.out)⟩

end Go.Proofs.Ytekajjhjjnfdpaa.Q

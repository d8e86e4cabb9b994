/- Written by a program of this session: functions of the translation as plain Lean functions, each with a proof that the call does what the plain function says; the conditions stand in each theorem. -/
import Derived.Test.YtfjomkjngolboaaQ0
import Derived.Test.YtfjomkjngolboaaQ1
import Derived.Test.YtfjomkjngolboaaQ2
namespace Go.Proofs.Ytfjomkjngolboaa.Q
open Go.RowKit Go.Proofs.YtfjomkjngolboaaW.PrintWords Go.Proofs.YtfjomkjngolboaaW.PrintLast Go.Proofs.YtfjomkjngolboaaW.PrintMore
attribute [local go_sem] max2_int min2_int max_two min_two max_three min_three max_four min_four   -- for this text's walks alone
set_option linter.unusedVariables false
set_option linter.unusedSimpArgs false

theorem zh1 {p : Prop} (h : p := by repeat (first | (with_reducible first | exact HB.out | apply below_alloc | apply pw_below_drewN | apply below_drew1 | refine below_set ?_ GE139.out | refine below_set ?_ GE140.out | refine below_set ?_ GE141.out | refine below_set ?_ GE145.out) | exact HB.out)) : p := h
theorem zh2 {p : Prop} (h : p := by first | exact BK139.out | ((with_reducible repeat (first | refine blk_drewN ?_ _ | refine blk_drew ?_ | refine blk_alloc ?_ _)); exact BK139.out)) : p := h
theorem zh3 {p : Prop} (h : p := by first | exact BK140.out | ((with_reducible repeat (first | refine blk_drewN ?_ _ | refine blk_drew ?_ | refine blk_alloc ?_ _)); exact BK140.out)) : p := h
theorem zh4 {p : Prop} (h : p := by repeat (first | (with_reducible first | exact HB.out | apply below_alloc | apply pw_below_drewN | apply below_drew1) | exact HB.out)) : p := h
theorem zh5 {p : Prop} (h : p := by first | exact BK141.out | ((with_reducible repeat (first | refine blk_drewN ?_ _ | refine blk_drew ?_ | refine blk_alloc ?_ _)); exact BK141.out)) : p := h
theorem zh6 {p : Prop} (h : p := by repeat (first | (with_reducible first | exact HB.out | apply below_alloc | apply pw_below_drewN | apply below_drew1 | refine below_set ?_ GE128.out | refine below_set ?_ GE129.out) | exact HB.out)) : p := h
theorem zh7 {p : Prop} (h : p := by first | exact BK128.out | ((with_reducible repeat (first | refine blk_drewN ?_ _ | refine blk_drew ?_ | refine blk_alloc ?_ _)); exact BK128.out)) : p := h
theorem zh8 {p : Prop} (h : p := by repeat (first | (with_reducible first | exact HB.out | apply below_alloc | apply pw_below_drewN | apply below_drew1 | refine below_set ?_ GE139.out | refine below_set ?_ GE140.out | refine below_set ?_ GE141.out) | exact HB.out)) : p := h
theorem zh9 {p : Prop} (h : p := by repeat (first | exact (Kd.C_below HR0_2.out HB.out) | (with_reducible refine Kd.C_alloc ?_ _) | (with_reducible refine Kd.C_drewN ?_ _) | (with_reducible refine Kd.C_drew ?_))) : p := h
theorem zh10 {p : Prop} (h : p := by repeat (first | (with_reducible first | exact HB.out | apply below_alloc | apply pw_below_drewN | apply below_drew1 | refine below_set ?_ GE128.out) | exact HB.out)) : p := h
theorem zh11 {p : Prop} (h : p := by first | exact HO_146000.out | ((with_reducible repeat (first | apply Kd.R_alloc | apply Kd.R_drewN | apply Kd.R_drew)); exact HO_146000.out)) : p := h
theorem zh12 {p : Prop} (h : p := by first | exact BK145.out | ((with_reducible repeat (first | refine blk_drewN ?_ _ | refine blk_drew ?_ | refine blk_alloc ?_ _)); exact BK145.out)) : p := h
theorem zh13 {p : Prop} (h : p := by (try simp only [List.map_toArray, List.map_cons, List.map_nil]); first | done | rfl | (simp only [List.length_drop, List.length_take]; rfl)) : p := h
theorem zh14 {p : Prop} (h : p := by first | exact HO_15.out | ((with_reducible repeat (first | apply Kd.R_alloc | apply Kd.R_drewN | apply Kd.R_drew)); exact HO_15.out)) : p := h
theorem zh15 {p : Prop} (h : p := by first | exact HO_146001.out | ((with_reducible repeat (first | apply Kd.R_alloc | apply Kd.R_drewN | apply Kd.R_drew)); exact HO_146001.out)) : p := h
theorem zh16 {p : Prop} (h : p := by first | exact HO_25.out | ((with_reducible repeat (first | apply Kd.R_alloc | apply Kd.R_drewN | apply Kd.R_drew)); exact HO_25.out)) : p := h
theorem zh17 {p : Prop} (h : p := by repeat (first | (with_reducible first | exact HB.out | apply below_alloc | apply pw_below_drewN | apply below_drew1 | refine below_set ?_ GE139.out | refine below_set ?_ GE140.out) | exact HB.out)) : p := h
theorem zh18 {p : Prop} (h : p := by (with_reducible repeat (first | apply Kd.R_alloc | apply Kd.R_drewN | apply Kd.R_drew)); exact Kd.R_mono (Kd.R_far (p := ⟨gb145, 1, none⟩) (Kd.R_far (p := ⟨gb145, 0, none⟩) (Kd.R_types HO144.out BK145.out (by decide)) (fun _ hk => hk.2) (.slice Ao11 t142.length co11)) (fun _ hk => hk.2) (.slice none 0 0)) (fun _ hk => (by simp [Value.ownBlock]))) : p := h
theorem zh19 {p : Prop} (h : p := by repeat (first | (with_reducible first | exact HB.out | apply below_alloc | apply pw_below_drewN | apply below_drew1 | refine below_set ?_ GE139.out) | exact HB.out)) : p := h
theorem zh20 {p : Prop} (h : p := by first | (with_reducible assumption) | assumption) : p := h
theorem zh21 {p : Prop} (h : p := by first | exact BK129.out | ((with_reducible repeat (first | refine blk_drewN ?_ _ | refine blk_drew ?_ | refine blk_alloc ?_ _)); exact BK129.out)) : p := h
theorem zh22 {p : Prop} (h : p := by first | rfl | (simp; done) | (simp [*]; done)) : p := h
theorem zh23 {p : Prop} (h : p := by first | rfl | (simp [errW_none, errW_some] <;> rfl) | (simp [*, errW_none, errW_some] <;> rfl)) : p := h
theorem zh24 {p : Prop} (h : p := by rw [hg]; exact Nat.ne_of_lt (blk_lt (g := gb139) (o := .cells #[.int .i64 a0_0, .int .i64 a0_1, .slice A0_2 l0_2.length c0_2] 30 (0, 0)) zh2)) : p := h
theorem zh25 {p : Prop} (h : p := by rw [hg]; exact Nat.ne_of_gt (blk_lt (g := gb139) (o := .cells #[.int .i64 a0_0, .int .i64 a0_1, .slice A0_2 l0_2.length c0_2] 30 (0, 0)) zh2)) : p := h
theorem zh26 {p : Prop} (h : p := by rw [hg]; exact (below_size zh4)) : p := h
theorem zh27 {p : Prop} (h : p := by rw [hg]; exact Nat.ne_of_lt (blk_lt (g := gb128) (o := .cells #[.int .i64 a0_0, .int .i64 a0_1, .slice A0_2 l0_2.length c0_2] 30 (0, 0)) zh7)) : p := h
theorem zh28 {p : Prop} (h : p := by rw [hg]; exact Nat.ne_of_gt (blk_lt (g := gb128) (o := .cells #[.int .i64 a0_0, .int .i64 a0_1, .slice A0_2 l0_2.length c0_2] 30 (0, 0)) zh7)) : p := h
/-! ### spec_guFew: function 18 -/
def spec_guFew.f (k : Nat) (a0_0 : Int) (a0_1 : Int) (l0_2 : List Int) (a1_0 : Int) (a1_1 : Int) : Option (Bool) := (spec_boTwo.f k a0_0 a0_1 l0_2 a1_0 a1_1).bind fun t130 => (if t130 = true then ((spec_boCells.f k a0_0 a0_1 l0_2).bind fun t131 => (some (decide ((t131.length : Int) ≤ 16)))) else (some false))
set_option maxHeartbeats 8000000 in
set_option maxRecDepth 100000 in
theorem spec_guFew.calls (k : Nat) (a0_0 : Int) (a0_1 : Int) (A0_2 : Option Addr) (c0_2 : Nat) (l0_2 : List Int) (a1_0 : Int) (a1_1 : Int) (r : Bool) (w : World) (hr0_2 : Kd.C (Kd.int .i64) w A0_2 l0_2.length l0_2) (hc0_2 : l0_2.length ≤ c0_2) (h : spec_guFew.f k a0_0 a0_1 l0_2 a1_0 a1_1 = some r) :
  Calls Try.prog 18 #[.agg #[.int .i64 a0_0, .int .i64 a0_1, .slice A0_2 l0_2.length c0_2], .agg #[.int .i64 a1_0, .int .i64 a1_1]] w fun e w' => e = .returned (.bool r) ∧ Below w.heap.size w w' := by
 have hu30 := Try.underlying30
 have hu32 := Try.underlying32
 have HR0_2 := Aside0.mk hr0_2
 have HC0_2 := Aside0.mk hc0_2
 clear hr0_2 hc0_2
 have HB := Aside0.mk (Below.refl w.heap.size w)
 have H : ((spec_boTwo.f k a0_0 a0_1 l0_2 a1_0 a1_1).bind fun t130 => (if t130 = true then ((spec_boCells.f k a0_0 a0_1 l0_2).bind fun t131 => (some (decide ((t131.length : Int) ≤ 16)))) else (some false))) = some r := h
 clear h
 replace H := Option.bind_eq_some_iff.mp H
 obtain ⟨t130, A30, H⟩ := H
 replace H : (if t130 = true then ((spec_boCells.f k a0_0 a0_1 l0_2).bind fun t131 => (some (decide ((t131.length : Int) ≤ 16)))) else (some false)) = some r := H
 have A3 := Aside0.mk A30
 clear A30
 by_cases c4 : t130 = true
 rotate_left
 ·replace c4 := Bool.eq_false_iff.mpr c4
  subst c4
  have H1 : (some false) = some r := by rw [if_neg (show ¬ (false = true) by decide)] at H; exact H
  clear H
  have H := H1
  clear H1
  obtain rfl := Option.some.inj H
  go_enter Try.func18, Try.ntmps18
  go_wp2_with (first | ((with_reducible refine gate_dst (N := 2) rfl ?_); (try (refine gate_guard (by rfl) ?_; dsimp only)); refine box_event ?hg (N := 2) ?hd (cs := #[.int .i64 a0_0, .int .i64 a0_1, .slice A0_2 l0_2.length c0_2]) (t := 30) ?hr ?_; (case hd => rfl); (case hg => rfl); (case hr => first | (go_simp; done) | (go_simp; rfl)); intro gb128 hg w15 hbox hb; have n0_ := Aside0.mk (below_step zh4 hb); have n1_ := Aside0.mk (hbox); have n2_ := Aside0.mk ((zh26 : w.heap.size ≤ gb128)); have n3_ := Aside0.mk ((zh26 : w.heap.size ≤ gb128)); clear HB; have HB := n0_; have BK128 := n1_; have GW128 := n2_; have GE128 := n3_; clear n0_ n1_ n2_ n3_; clear hb hbox hg) | ((with_reducible refine gate_dst (N := 3) rfl ?_); (try (refine gate_guard (by rfl) ?_; dsimp only)); refine box_event ?hg (N := 3) ?hd (cs := #[.int .i64 a1_0, .int .i64 a1_1]) (t := 32) ?hr ?_; (case hd => rfl); (case hg => rfl); (case hr => first | (go_simp; done) | (go_simp; rfl)); intro gb129 hg w16 hbox hb; have n0_ := Aside0.mk (blk_below (g := gb128) (o := .cells #[.int .i64 a0_0, .int .i64 a0_1, .slice A0_2 l0_2.length c0_2] 30 (0, 0)) zh7 hb); have n1_ := Aside0.mk (below_step zh10 hb); have n2_ := Aside0.mk (hbox); have n3_ := Aside0.mk ((by rw [hg]; exact (below_size zh10) : w.heap.size ≤ gb129)); have n4_ := Aside0.mk ((by rw [hg]; exact (below_size zh10) : w.heap.size ≤ gb129)); have n5_ := Aside0.mk ((zh27 : gb128 ≠ gb129)); have n6_ := Aside0.mk ((zh28 : gb129 ≠ gb128)); clear BK128; clear HB; have BK128 := n0_; have HB := n1_; have BK129 := n2_; have GW129 := n3_; have GE129 := n4_; have NB128_129 := n5_; have NB129_128 := n6_; clear n0_ n1_ n2_ n3_ n4_ n5_ n6_; clear hb hbox hg; have hnb17 := NB128_129.out; have hnc17 := NB129_128.out; have hcz18_0 : w16.cell? ⟨gb128, 0, none⟩ = some (.int .i64 a0_0) := (blk_cell BK128.out 0).trans rfl; have hcz18_1 : w16.cell? ⟨gb128, 1, none⟩ = some (.int .i64 a0_1) := (blk_cell BK128.out 1).trans rfl; have hcz18_2 : w16.cell? ⟨gb128, 2, none⟩ = some (.slice A0_2 l0_2.length c0_2) := (blk_cell BK128.out 2).trans rfl; have hfz18_0 := blk_frozen BK128.out 0; have hfz18_1 := blk_frozen BK128.out 1; have hfz18_2 := blk_frozen BK128.out 2; have hcz19_0 : w16.cell? ⟨gb129, 0, none⟩ = some (.int .i64 a1_0) := (blk_cell BK129.out 0).trans rfl; have hcz19_1 : w16.cell? ⟨gb129, 1, none⟩ = some (.int .i64 a1_1) := (blk_cell BK129.out 1).trans rfl; have hfz19_0 := blk_frozen BK129.out 0; have hfz19_1 := blk_frozen BK129.out 1) | ((with_reducible refine gate_callee (f := 26) rfl ?_); refine goesL_ (some 7) rfl rfl Try.func26 (by kernel_rfl) rfl #[.agg #[.int .i64 a0_0, .int .i64 a0_1, .slice A0_2 l0_2.length c0_2], .agg #[.int .i64 a1_0, .int .i64 a1_1]] rfl zh13 ?_; (with_reducible refine (spec_boTwo.calls k a0_0 a0_1 _ _ l0_2 a1_0 a1_1 false _ ?side1 ?side2 A3.out).mono ?_); (case side1 => exact zh9); (case side2 => exact HC0_2.out); rintro e w20 ⟨rfl, hb⟩; refine ⟨_, rfl, ?_⟩; have n0_ := Aside0.mk (blk_below (g := gb128) (o := .cells #[.int .i64 a0_0, .int .i64 a0_1, .slice A0_2 l0_2.length c0_2] 30 (0, 0)) zh7 hb); have n1_ := Aside0.mk (blk_below (g := gb129) (o := .cells #[.int .i64 a1_0, .int .i64 a1_1] 32 (0, 0)) zh21 hb); have n2_ := Aside0.mk (below_step zh6 hb); clear BK128; clear BK129; clear HB; have BK128 := n0_; have BK129 := n1_; have HB := n2_; clear n0_ n1_ n2_; (try clear hb); (try clear hb2); (try clear hk); (try clear hi); (try clear hna_); (try clear hnb_)))
  go_ret
  exact ⟨zh23, zh6⟩
 subst c4
 have H1 : ((spec_boCells.f k a0_0 a0_1 l0_2).bind fun t131 => (some (decide ((t131.length : Int) ≤ 16)))) = some r := by rw [if_pos rfl] at H; exact H
 clear H
 have H := H1
 clear H1
 replace H := Option.bind_eq_some_iff.mp H
 obtain ⟨t131, A50, H⟩ := H
 replace H : (some (decide ((t131.length : Int) ≤ 16))) = some r := H
 have A5 := Aside0.mk A50
 clear A50
 obtain rfl := Option.some.inj H
 go_enter Try.func18, Try.ntmps18
 go_wp2_with (first | ((with_reducible refine gate_dst (N := 2) rfl ?_); (try (refine gate_guard (by rfl) ?_; dsimp only)); refine box_event ?hg (N := 2) ?hd (cs := #[.int .i64 a0_0, .int .i64 a0_1, .slice A0_2 l0_2.length c0_2]) (t := 30) ?hr ?_; (case hd => rfl); (case hg => rfl); (case hr => first | (go_simp; done) | (go_simp; rfl)); intro gb128 hg w6 hbox hb; have n0_ := Aside0.mk (below_step zh4 hb); have n1_ := Aside0.mk (hbox); have n2_ := Aside0.mk ((zh26 : w.heap.size ≤ gb128)); have n3_ := Aside0.mk ((zh26 : w.heap.size ≤ gb128)); clear HB; have HB := n0_; have BK128 := n1_; have GW128 := n2_; have GE128 := n3_; clear n0_ n1_ n2_ n3_; clear hb hbox hg) | ((with_reducible refine gate_dst (N := 3) rfl ?_); (try (refine gate_guard (by rfl) ?_; dsimp only)); refine box_event ?hg (N := 3) ?hd (cs := #[.int .i64 a1_0, .int .i64 a1_1]) (t := 32) ?hr ?_; (case hd => rfl); (case hg => rfl); (case hr => first | (go_simp; done) | (go_simp; rfl)); intro gb129 hg w7 hbox hb; have n0_ := Aside0.mk (blk_below (g := gb128) (o := .cells #[.int .i64 a0_0, .int .i64 a0_1, .slice A0_2 l0_2.length c0_2] 30 (0, 0)) zh7 hb); have n1_ := Aside0.mk (below_step zh10 hb); have n2_ := Aside0.mk (hbox); have n3_ := Aside0.mk ((by rw [hg]; exact (below_size zh10) : w.heap.size ≤ gb129)); have n4_ := Aside0.mk ((by rw [hg]; exact (below_size zh10) : w.heap.size ≤ gb129)); have n5_ := Aside0.mk ((zh27 : gb128 ≠ gb129)); have n6_ := Aside0.mk ((zh28 : gb129 ≠ gb128)); clear BK128; clear HB; have BK128 := n0_; have HB := n1_; have BK129 := n2_; have GW129 := n3_; have GE129 := n4_; have NB128_129 := n5_; have NB129_128 := n6_; clear n0_ n1_ n2_ n3_ n4_ n5_ n6_; clear hb hbox hg; have hnb8 := NB128_129.out; have hnc8 := NB129_128.out; have hcz9_0 : w7.cell? ⟨gb128, 0, none⟩ = some (.int .i64 a0_0) := (blk_cell BK128.out 0).trans rfl; have hcz9_1 : w7.cell? ⟨gb128, 1, none⟩ = some (.int .i64 a0_1) := (blk_cell BK128.out 1).trans rfl; have hcz9_2 : w7.cell? ⟨gb128, 2, none⟩ = some (.slice A0_2 l0_2.length c0_2) := (blk_cell BK128.out 2).trans rfl; have hfz9_0 := blk_frozen BK128.out 0; have hfz9_1 := blk_frozen BK128.out 1; have hfz9_2 := blk_frozen BK128.out 2; have hcz10_0 : w7.cell? ⟨gb129, 0, none⟩ = some (.int .i64 a1_0) := (blk_cell BK129.out 0).trans rfl; have hcz10_1 : w7.cell? ⟨gb129, 1, none⟩ = some (.int .i64 a1_1) := (blk_cell BK129.out 1).trans rfl; have hfz10_0 := blk_frozen BK129.out 0; have hfz10_1 := blk_frozen BK129.out 1) | ((with_reducible refine gate_callee (f := 26) rfl ?_); refine goesL_ (some 7) rfl rfl Try.func26 (by kernel_rfl) rfl #[.agg #[.int .i64 a0_0, .int .i64 a0_1, .slice A0_2 l0_2.length c0_2], .agg #[.int .i64 a1_0, .int .i64 a1_1]] rfl zh13 ?_; (with_reducible refine (spec_boTwo.calls k a0_0 a0_1 _ _ l0_2 a1_0 a1_1 true _ ?side1 ?side2 A3.out).mono ?_); (case side1 => exact zh9); (case side2 => exact HC0_2.out); rintro e w11 ⟨rfl, hb⟩; refine ⟨_, rfl, ?_⟩; have n0_ := Aside0.mk (blk_below (g := gb128) (o := .cells #[.int .i64 a0_0, .int .i64 a0_1, .slice A0_2 l0_2.length c0_2] 30 (0, 0)) zh7 hb); have n1_ := Aside0.mk (blk_below (g := gb129) (o := .cells #[.int .i64 a1_0, .int .i64 a1_1] 32 (0, 0)) zh21 hb); have n2_ := Aside0.mk (below_step zh6 hb); clear BK128; clear BK129; clear HB; have BK128 := n0_; have BK129 := n1_; have HB := n2_; clear n0_ n1_ n2_; (try clear hb); (try clear hb2); (try clear hk); (try clear hi); (try clear hna_); (try clear hnb_); have hcz12_0 : w11.cell? ⟨gb128, 0, none⟩ = some (.int .i64 a0_0) := (blk_cell BK128.out 0).trans rfl; have hcz12_1 : w11.cell? ⟨gb128, 1, none⟩ = some (.int .i64 a0_1) := (blk_cell BK128.out 1).trans rfl; have hcz12_2 : w11.cell? ⟨gb128, 2, none⟩ = some (.slice A0_2 l0_2.length c0_2) := (blk_cell BK128.out 2).trans rfl; have hfz12_0 := blk_frozen BK128.out 0; have hfz12_1 := blk_frozen BK128.out 1; have hfz12_2 := blk_frozen BK128.out 2) | (go_at_call 32; (with_reducible refine (spec_boCells.calls k a0_0 a0_1 _ _ l0_2 t131 _ ?side1 ?side2 A5.out).mono ?_); (case side1 => exact zh9); (case side2 => exact HC0_2.out); rintro e w13 ⟨v132, rfl, ho0, hb⟩; have n0_ := Aside0.mk (Kd.R_lower ho0 (below_size zh6)); have n1_ := Aside0.mk (blk_below (g := gb128) (o := .cells #[.int .i64 a0_0, .int .i64 a0_1, .slice A0_2 l0_2.length c0_2] 30 (0, 0)) zh7 hb); have n2_ := Aside0.mk (blk_below (g := gb129) (o := .cells #[.int .i64 a1_0, .int .i64 a1_1] 32 (0, 0)) zh21 hb); have n3_ := Aside0.mk (below_step zh6 hb); clear BK128; clear BK129; clear HB; have HO133 := n0_; have BK128 := n1_; have BK129 := n2_; have HB := n3_; clear n0_ n1_ n2_ n3_; (try clear hb); (try clear hb2); (try clear hk); (try clear hi); (try clear ho0); (try clear hna_); (try clear hnb_); obtain ⟨Ao14, co14, eo14⟩ := Kd.R_slice HO133.out; subst eo14))
 go_ret
 exact ⟨zh23, zh6⟩

/-! ### spec_guNew: function 19 -/
mutual
def spec_guNew.l0 : Nat → List Int → Int → Int → Int → Int → List Int → Int → Int → List Int → List Int → Option (List Int × List Int)
 | 0, _, _, _, _, _, _, _, _, _, _ => none
 | k + 1, x15, x16, x17, x140000, x140001, x140002, x141000, x141001, x146000, x146001 => if x17 < x16 then (if 0 ≤ x17 then (if x17 < (x15.length : Int) then (spec_guNew.l1 k (rd x15 x17) (shl .i64 1 x17) x15 x16 x17 x146000 (x146000.length : Int) 0 x140000 x140001 x140002 x141000 x141001 x146000 x146001) else (none)) else (none)) else (some (x146000, x146001))
def spec_guNew.l1 : Nat → Int → Int → List Int → Int → Int → List Int → Int → Int → Int → Int → List Int → Int → Int → List Int → List Int → Option (List Int × List Int)
 | 0, _, _, _, _, _, _, _, _, _, _, _, _, _, _, _ => none
 | k + 1, x7, x8, x15, x16, x17, x25, x26, x27, x140000, x140001, x140002, x141000, x141001, x146000, x146001 => if x27 < x26 then (if 0 ≤ x27 then (if x27 < (x25.length : Int) then ((spec_boIs.f x140000 x140001 x140002 x141000 x141001 x7 (rd x25 x27)).bind fun t148 => (if t148 = true then (spec_guNew.l1 k x7 (Go.bits .or .i64 x8 (shl .i64 1 x27)) x15 x16 x17 x25 x26 (wrap64 (x27 + 1)) x140000 x140001 x140002 x141000 x141001 x146000 x146001) else (spec_guNew.l1 k x7 x8 x15 x16 x17 x25 x26 (wrap64 (x27 + 1)) x140000 x140001 x140002 x141000 x141001 x146000 x146001))) else (none)) else (none)) else (if x146001.length < 17592186044416 then (spec_guNew.l0 k x15 x16 (wrap64 (x17 + 1)) x140000 x140001 x140002 x141000 x141001 x146000 (x146001 ++ [x8])) else (none))
end
def spec_guNew.f (k : Nat) (a0_0 : Int) (a0_1 : Int) (l0_2 : List Int) (a1_0 : Int) (a1_1 : Int) : Option (List Int × List Int) := (spec_boCells.f k a0_0 a0_1 l0_2).bind fun t142 => (spec_guNew.l0 k t142 (t142.length : Int) 0 a0_0 a0_1 l0_2 a1_0 a1_1 t142 ([] : List Int))
set_option maxHeartbeats 8000000 in
set_option maxRecDepth 100000 in
theorem spec_guNew.calls (k : Nat) (a0_0 : Int) (a0_1 : Int) (A0_2 : Option Addr) (c0_2 : Nat) (l0_2 : List Int) (a1_0 : Int) (a1_1 : Int) (r1 : List Int) (r2 : List Int) (w : World) (hr0_2 : Kd.C (Kd.int .i64) w A0_2 l0_2.length l0_2) (hc0_2 : l0_2.length ≤ c0_2) (h : spec_guNew.f k a0_0 a0_1 l0_2 a1_0 a1_1 = some (r1, r2)) :
  Calls Try.prog 19 #[.agg #[.int .i64 a0_0, .int .i64 a0_1, .slice A0_2 l0_2.length c0_2], .agg #[.int .i64 a1_0, .int .i64 a1_1]] w fun e w' => ∃ v0_ v1_ : Value, e = .returned (.agg #[v0_, v1_]) ∧ Kd.R (Kd.int .i64) 3 w' w.heap.size (fun k_ => some k_ ≠ (v1_ : Value).ownBlock) v0_ r1 ∧ Kd.R (Kd.int .i64) 3 w' w.heap.size (fun k_ => some k_ ≠ (v0_ : Value).ownBlock) v1_ r2 ∧ Below w.heap.size w w' := by
 have hu30 := Try.underlying30
 have hu32 := Try.underlying32
 have hu45 := Try.underlying45
 have HR0_2 := Aside0.mk hr0_2
 have HC0_2 := Aside0.mk hc0_2
 clear hr0_2 hc0_2
 have HB := Aside0.mk (Below.refl w.heap.size w)
 have H : ((spec_boCells.f k a0_0 a0_1 l0_2).bind fun t142 => (spec_guNew.l0 k t142 (t142.length : Int) 0 a0_0 a0_1 l0_2 a1_0 a1_1 t142 ([] : List Int))) = some (r1, r2) := h
 clear h
 replace H := Option.bind_eq_some_iff.mp H
 obtain ⟨t142, A30, H⟩ := H
 replace H : (spec_guNew.l0 k t142 (t142.length : Int) 0 a0_0 a0_1 l0_2 a1_0 a1_1 t142 ([] : List Int)) = some (r1, r2) := H
 have A3 := Aside0.mk A30
 clear A30
 have H' := Aside0.mk H
 clear H
 go_enter Try.func19, Try.ntmps19
 go_wp2_with (first | ((with_reducible refine gate_dst (N := 2) rfl ?_); refine box_event ?hg (N := 2) ?hd (cs := #[.int .i64 a0_0, .int .i64 a0_1, .slice A0_2 l0_2.length c0_2]) (t := 30) ?hr ?_; (case hd => rfl); (case hg => rfl); (case hr => first | (go_simp; done) | (go_simp; rfl)); intro gb139 hg w4 hbox hb; have n0_ := Aside0.mk (below_step zh4 hb); have n1_ := Aside0.mk (hbox); have n2_ := Aside0.mk ((zh26 : w.heap.size ≤ gb139)); have n3_ := Aside0.mk ((zh26 : w.heap.size ≤ gb139)); clear HB; have HB := n0_; have BK139 := n1_; have GW139 := n2_; have GE139 := n3_; clear n0_ n1_ n2_ n3_; clear hb hbox hg) | ((with_reducible refine gate_dst (N := 3) rfl ?_); refine box_event ?hg (N := 3) ?hd (cs := #[.int .i64 a1_0, .int .i64 a1_1]) (t := 32) ?hr ?_; (case hd => rfl); (case hg => rfl); (case hr => first | (go_simp; done) | (go_simp; rfl)); intro gb140 hg w5 hbox hb; have n0_ := Aside0.mk (blk_below (g := gb139) (o := .cells #[.int .i64 a0_0, .int .i64 a0_1, .slice A0_2 l0_2.length c0_2] 30 (0, 0)) zh2 hb); have n1_ := Aside0.mk (below_step zh19 hb); have n2_ := Aside0.mk (hbox); have n3_ := Aside0.mk ((by rw [hg]; exact (below_size zh19) : w.heap.size ≤ gb140)); have n4_ := Aside0.mk ((by rw [hg]; exact (below_size zh19) : w.heap.size ≤ gb140)); have n5_ := Aside0.mk ((zh24 : gb139 ≠ gb140)); have n6_ := Aside0.mk ((zh25 : gb140 ≠ gb139)); clear BK139; clear HB; have BK139 := n0_; have HB := n1_; have BK140 := n2_; have GW140 := n3_; have GE140 := n4_; have NB139_140 := n5_; have NB140_139 := n6_; clear n0_ n1_ n2_ n3_ n4_ n5_ n6_; clear hb hbox hg) | ((with_reducible refine gate_dst (N := 4) rfl ?_); refine box_event ?hg (N := 4) ?hd (cs := #[.slice none 0 0, .slice none 0 0]) (t := 45) ?hr ?_; (case hd => rfl); (case hg => rfl); (case hr => first | (go_simp; done) | (go_simp; rfl)); intro gb141 hg w6 hbox hb; have n0_ := Aside0.mk (blk_below (g := gb139) (o := .cells #[.int .i64 a0_0, .int .i64 a0_1, .slice A0_2 l0_2.length c0_2] 30 (0, 0)) zh2 hb); have n1_ := Aside0.mk (blk_below (g := gb140) (o := .cells #[.int .i64 a1_0, .int .i64 a1_1] 32 (0, 0)) zh3 hb); have n2_ := Aside0.mk (below_step zh17 hb); have n3_ := Aside0.mk (hbox); have n4_ := Aside0.mk ((by rw [hg]; exact (below_size zh17) : w.heap.size ≤ gb141)); have n5_ := Aside0.mk ((by rw [hg]; exact (below_size zh17) : w.heap.size ≤ gb141)); have n6_ := Aside0.mk ((zh24 : gb139 ≠ gb141)); have n7_ := Aside0.mk ((zh25 : gb141 ≠ gb139)); have n8_ := Aside0.mk ((by rw [hg]; exact Nat.ne_of_lt (blk_lt (g := gb140) (o := .cells #[.int .i64 a1_0, .int .i64 a1_1] 32 (0, 0)) zh3) : gb140 ≠ gb141)); have n9_ := Aside0.mk ((by rw [hg]; exact Nat.ne_of_gt (blk_lt (g := gb140) (o := .cells #[.int .i64 a1_0, .int .i64 a1_1] 32 (0, 0)) zh3) : gb141 ≠ gb140)); clear BK139; clear BK140; clear HB; have BK139 := n0_; have BK140 := n1_; have HB := n2_; have BK141 := n3_; have GW141 := n4_; have GE141 := n5_; have NB139_141 := n6_; have NB141_139 := n7_; have NB140_141 := n8_; have NB141_140 := n9_; clear n0_ n1_ n2_ n3_ n4_ n5_ n6_ n7_ n8_ n9_; clear hb hbox hg; have hnb7 := NB139_140.out; have hnc7 := NB140_139.out; have hnb8 := NB139_141.out; have hnc8 := NB141_139.out; have hcz9_0 : w6.cell? ⟨gb139, 0, none⟩ = some (.int .i64 a0_0) := (blk_cell BK139.out 0).trans rfl; have hcz9_1 : w6.cell? ⟨gb139, 1, none⟩ = some (.int .i64 a0_1) := (blk_cell BK139.out 1).trans rfl; have hcz9_2 : w6.cell? ⟨gb139, 2, none⟩ = some (.slice A0_2 l0_2.length c0_2) := (blk_cell BK139.out 2).trans rfl; have hfz9_0 := blk_frozen BK139.out 0; have hfz9_1 := blk_frozen BK139.out 1; have hfz9_2 := blk_frozen BK139.out 2) | ((with_reducible refine gate_callee (f := 32) rfl ?_); refine goesL_ (some 12) rfl rfl Try.func32 (by kernel_rfl) rfl #[.agg #[.int .i64 a0_0, .int .i64 a0_1, .slice A0_2 l0_2.length c0_2]] rfl zh13 ?_; (with_reducible refine (spec_boCells.calls k a0_0 a0_1 _ _ l0_2 t142 _ ?side1 ?side2 A3.out).mono ?_); (case side1 => exact zh9); (case side2 => exact HC0_2.out); rintro e w10 ⟨v143, rfl, ho0, hb⟩; refine ⟨_, rfl, ?_⟩; have n0_ := Aside0.mk (Kd.R_lower ho0 (below_size zh8)); have n1_ := Aside0.mk (blk_below (g := gb139) (o := .cells #[.int .i64 a0_0, .int .i64 a0_1, .slice A0_2 l0_2.length c0_2] 30 (0, 0)) zh2 hb); have n2_ := Aside0.mk (blk_below (g := gb140) (o := .cells #[.int .i64 a1_0, .int .i64 a1_1] 32 (0, 0)) zh3 hb); have n3_ := Aside0.mk (blk_below (g := gb141) (o := .cells #[.slice none 0 0, .slice none 0 0] 45 (0, 0)) zh5 hb); have n4_ := Aside0.mk (below_step zh8 hb); clear BK139; clear BK140; clear BK141; clear HB; have HO144 := n0_; have BK139 := n1_; have BK140 := n2_; have BK141 := n3_; have HB := n4_; clear n0_ n1_ n2_ n3_ n4_; (try clear hb); (try clear hb2); (try clear hk); (try clear hi); (try clear ho0); (try clear hna_); (try clear hnb_); obtain ⟨Ao11, co11, eo11⟩ := Kd.R_slice HO144.out; subst eo11) | ((with_reducible refine gate_dst (N := 5) rfl ?_); refine box_event ?hg (N := 5) ?hd (cs := #[.slice none 0 0, .slice none 0 0]) (t := 45) ?hr ?_; (case hd => rfl); (case hg => rfl); (case hr => first | (go_simp; done) | (go_simp; rfl)); intro gb145 hg w12 hbox hb; have n0_ := Aside0.mk (Kd.R_below (by first | exact HO144.out | ((with_reducible repeat (first | apply Kd.R_alloc | apply Kd.R_drewN | apply Kd.R_drew)); exact HO144.out)) hb); have n1_ := Aside0.mk (blk_below (g := gb139) (o := .cells #[.int .i64 a0_0, .int .i64 a0_1, .slice A0_2 l0_2.length c0_2] 30 (0, 0)) zh2 hb); have n2_ := Aside0.mk (blk_below (g := gb140) (o := .cells #[.int .i64 a1_0, .int .i64 a1_1] 32 (0, 0)) zh3 hb); have n3_ := Aside0.mk (blk_below (g := gb141) (o := .cells #[.slice none 0 0, .slice none 0 0] 45 (0, 0)) zh5 hb); have n4_ := Aside0.mk (below_step zh8 hb); have n5_ := Aside0.mk (hbox); have n6_ := Aside0.mk ((by rw [hg]; exact (below_size zh8) : w.heap.size ≤ gb145)); have n7_ := Aside0.mk ((by rw [hg]; exact (below_size zh8) : w.heap.size ≤ gb145)); have n8_ := Aside0.mk ((zh24 : gb139 ≠ gb145)); have n9_ := Aside0.mk ((zh25 : gb145 ≠ gb139)); have n10_ := Aside0.mk ((by rw [hg]; exact Nat.ne_of_lt (blk_lt (g := gb140) (o := .cells #[.int .i64 a1_0, .int .i64 a1_1] 32 (0, 0)) zh3) : gb140 ≠ gb145)); have n11_ := Aside0.mk ((by rw [hg]; exact Nat.ne_of_gt (blk_lt (g := gb140) (o := .cells #[.int .i64 a1_0, .int .i64 a1_1] 32 (0, 0)) zh3) : gb145 ≠ gb140)); have n12_ := Aside0.mk ((by rw [hg]; exact Nat.ne_of_lt (blk_lt (g := gb141) (o := .cells #[.slice none 0 0, .slice none 0 0] 45 (0, 0)) zh5) : gb141 ≠ gb145)); have n13_ := Aside0.mk ((by rw [hg]; exact Nat.ne_of_gt (blk_lt (g := gb141) (o := .cells #[.slice none 0 0, .slice none 0 0] 45 (0, 0)) zh5) : gb145 ≠ gb141)); clear HO144; clear BK139; clear BK140; clear BK141; clear HB; have HO144 := n0_; have BK139 := n1_; have BK140 := n2_; have BK141 := n3_; have HB := n4_; have BK145 := n5_; have GW145 := n6_; have GE145 := n7_; have NB139_145 := n8_; have NB145_139 := n9_; have NB140_145 := n10_; have NB145_140 := n11_; have NB141_145 := n12_; have NB145_141 := n13_; clear n0_ n1_ n2_ n3_ n4_ n5_ n6_ n7_ n8_ n9_ n10_ n11_ n12_ n13_; clear hb hbox hg; have hnb13 := NB145_139.out; have hnc13 := NB139_145.out; have hnb14 := NB145_140.out; have hnc14 := NB140_145.out; have hnb15 := NB145_141.out; have hnc15 := NB141_145.out; have hcz16_0 : w12.cell? ⟨gb145, 0, none⟩ = some (.slice none 0 0) := (blk_cell BK145.out 0).trans rfl; have hcz16_1 : w12.cell? ⟨gb145, 1, none⟩ = some (.slice none 0 0) := (blk_cell BK145.out 1).trans rfl; have hfz16_0 := blk_frozen BK145.out 0; have hfz16_1 := blk_frozen BK145.out 1))
 go_loopg [17] k (fun kq v17 w' => ∃ (x17_1 : Int) (x146001_1 : List Int) (u146001 : Value), v17 = .int .i64 x17_1 ∧ Aside0 (spec_guNew.l0 kq t142 (t142.length : Int) x17_1 a0_0 a0_1 l0_2 a1_0 a1_1 t142 x146001_1 = some (r1, r2)) ∧ Aside0 (kq ≤ k) ∧ Aside0 (Kd.R (Kd.int .i64) 3 w' w.heap.size (fun k_ => some k_ ≠ (u146001 : Value).ownBlock) (.slice Ao11 t142.length co11) t142) ∧ Aside0 (Kd.R (Kd.int .i64) 3 w' w.heap.size (fun k_ => some k_ ≠ (u146001 : Value).ownBlock) (.slice Ao11 t142.length co11) t142) ∧ Aside0 (Kd.R (Kd.int .i64) 3 w' w.heap.size (fun k_ => some k_ ≠ ((.slice Ao11 t142.length co11) : Value).ownBlock ∧ some k_ ≠ ((.slice Ao11 t142.length co11) : Value).ownBlock) u146001 x146001_1) ∧ Aside0 (w'.heap[gb139]? = some (.cells #[.int .i64 a0_0, .int .i64 a0_1, (.slice A0_2 l0_2.length c0_2)] 30 (0, 0))) ∧ Aside0 (w'.heap[gb140]? = some (.cells #[.int .i64 a1_0, .int .i64 a1_1] 32 (0, 0))) ∧ Aside0 (w'.heap[gb141]? = some (.cells #[(.slice none 0 0), (.slice none 0 0)] 45 (0, 0))) ∧ Aside0 (w'.heap[gb145]? = some (.cells #[(.slice Ao11 t142.length co11), u146001] 45 (0, 0))) ∧ Aside0 (Below w.heap.size w w'))
 case atStart => exact ⟨(0), (([] : List Int)), (.slice none 0 0), zh22, H', ⟨Nat.le_refl _⟩, ⟨zh18⟩, ⟨zh18⟩, ⟨by first | exact Kd.R_nil _ _ _ _ _ | exact Kd.N_nil _ _ _ _ _ | exact Kd.V_nil _ _ _ _ _ | exact Kd.Q_nil _ _ _ _ _ | exact Kd.S_nil _ _ _ _ _⟩, ⟨by (with_reducible repeat (first | refine blk_drewN ?_ _ | refine blk_drew ?_ | refine blk_alloc ?_ _)); refine blk_far ?_ NB139_145.out _; (with_reducible repeat (first | refine blk_drewN ?_ _ | refine blk_drew ?_ | refine blk_alloc ?_ _)); refine blk_far ?_ NB139_145.out _; first | exact BK139.out | ((with_reducible repeat (first | refine blk_drewN ?_ _ | refine blk_drew ?_ | refine blk_alloc ?_ _)); exact BK139.out)⟩, ⟨by (with_reducible repeat (first | refine blk_drewN ?_ _ | refine blk_drew ?_ | refine blk_alloc ?_ _)); refine blk_far ?_ NB140_145.out _; (with_reducible repeat (first | refine blk_drewN ?_ _ | refine blk_drew ?_ | refine blk_alloc ?_ _)); refine blk_far ?_ NB140_145.out _; first | exact BK140.out | ((with_reducible repeat (first | refine blk_drewN ?_ _ | refine blk_drew ?_ | refine blk_alloc ?_ _)); exact BK140.out)⟩, ⟨by (with_reducible repeat (first | refine blk_drewN ?_ _ | refine blk_drew ?_ | refine blk_alloc ?_ _)); refine blk_far ?_ NB141_145.out _; (with_reducible repeat (first | refine blk_drewN ?_ _ | refine blk_drew ?_ | refine blk_alloc ?_ _)); refine blk_far ?_ NB141_145.out _; first | exact BK141.out | ((with_reducible repeat (first | refine blk_drewN ?_ _ | refine blk_drew ?_ | refine blk_alloc ?_ _)); exact BK141.out)⟩, ⟨by (with_reducible repeat (first | refine blk_drewN ?_ _ | refine blk_drew ?_ | refine blk_alloc ?_ _)); refine blk_put (cs := #[.slice Ao11 t142.length co11, .slice none 0 0]) ?_ 1 _ rfl; (with_reducible repeat (first | refine blk_drewN ?_ _ | refine blk_drew ?_ | refine blk_alloc ?_ _)); refine blk_put (cs := #[.slice none 0 0, .slice none 0 0]) ?_ 0 _ rfl; first | exact BK145.out | ((with_reducible repeat (first | refine blk_drewN ?_ _ | refine blk_drew ?_ | refine blk_alloc ?_ _)); exact BK145.out)⟩, ⟨zh1⟩⟩
 case round =>
  clear H'
  try clear c1; try clear p2; try clear c3; try clear c7; try clear c8; try clear c13; try clear c14; try clear c15; try clear hcz16_0; try clear hcz16_1; try clear hcz9_0; try clear hcz9_1; try clear hcz9_2; try clear hfz16_0; try clear hfz16_1; try clear hfz9_0; try clear hfz9_1; try clear hfz9_2
  obtain ⟨x17_1, x146001_1, u146001, rfl, HA, HK1, HO_15, HO_146000, HO_146001, BK139, BK140, BK141, BK145, HB⟩ := hrel
  cases gk with
  | zero => exact absurd HA.out (by simp [spec_guNew.l0])
  | succ k1 =>
   have H := HA.out
   clear HA
   simp only [spec_guNew.l0] at H
   by_cases c17 : x17_1 < (t142.length : Int)
   rotate_left
   ·rw [if_neg c17] at H
    have c17b0 : decide (x17_1 < (t142.length : Int)) = false := decide_eq_false c17
    clear c17
    simp only [Option.some.injEq, Prod.mk.injEq] at H
    obtain ⟨rfl, rfl⟩ := H
    have hnb57 := NB145_139.out
    have hnc57 := NB139_145.out
    have hnb58 := NB145_140.out
    have hnc58 := NB140_145.out
    have hnb59 := NB145_141.out
    have hnc59 := NB141_145.out
    have hcz60_0 : wr.cell? ⟨gb145, 0, none⟩ = some (.slice Ao11 t142.length co11) := (blk_cell BK145.out 0).trans rfl
    have hcz60_1 : wr.cell? ⟨gb145, 1, none⟩ = some (u146001) := (blk_cell BK145.out 1).trans rfl
    have hfz60_0 := blk_frozen BK145.out 0
    have hfz60_1 := blk_frozen BK145.out 1
    have hnb61 := NB141_139.out
    have hnc61 := NB139_141.out
    have hnb62 := NB141_140.out
    have hnc62 := NB140_141.out
    have hcz63_0 : wr.cell? ⟨gb141, 0, none⟩ = some (.slice none 0 0) := (blk_cell BK141.out 0).trans rfl
    have hcz63_1 : wr.cell? ⟨gb141, 1, none⟩ = some (.slice none 0 0) := (blk_cell BK141.out 1).trans rfl
    have hfz63_0 := blk_frozen BK141.out 0
    have hfz63_1 := blk_frozen BK141.out 1
    obtain ⟨Ao64, co64, eo64⟩ := Kd.R_slice HO_146001.out
    subst eo64
    go_wp2
    refine bodyPost_ret (results_cell_row rfl _ _ gb141 45 #[.slice Ao11 t142.length co11, .slice Ao64 x146001_1.length co64] (0, 0) _ rfl (by (with_reducible repeat (first | refine blk_drewN ?_ _ | refine blk_drew ?_ | refine blk_alloc ?_ _)); refine blk_put (cs := #[.slice Ao11 t142.length co11, .slice none 0 0]) ?_ 1 _ rfl; (with_reducible repeat (first | refine blk_drewN ?_ _ | refine blk_drew ?_ | refine blk_alloc ?_ _)); refine blk_put (cs := #[.slice none 0 0, .slice none 0 0]) ?_ 0 _ rfl; first | exact BK141.out | ((with_reducible repeat (first | refine blk_drewN ?_ _ | refine blk_drew ?_ | refine blk_alloc ?_ _)); exact BK141.out)) Try.underlying45 rfl (by kernel_rfl)) rfl ?_
    exact ⟨_, _, zh23, by (with_reducible repeat (first | apply Kd.R_alloc | apply Kd.R_drewN | apply Kd.R_drew)); exact Kd.R_mono (Kd.R_far (p := ⟨gb141, 1, none⟩) (Kd.R_far (p := ⟨gb141, 0, none⟩) (Kd.R_types HO_146000.out BK141.out (by decide)) (fun _ hk => hk.2) (.slice Ao11 t142.length co11)) (fun _ hk => hk.2) (.slice Ao64 x146001_1.length co64)) (fun _ hk => hk.1), by (with_reducible repeat (first | apply Kd.R_alloc | apply Kd.R_drewN | apply Kd.R_drew)); exact Kd.R_mono (Kd.R_far (p := ⟨gb141, 1, none⟩) (Kd.R_far (p := ⟨gb141, 0, none⟩) (Kd.R_types HO_146001.out BK141.out (by decide)) (fun _ hk => hk.2) (.slice Ao11 t142.length co11)) (fun _ hk => hk.2) (.slice Ao64 x146001_1.length co64)) (fun _ hk => hk.1.2), zh1⟩
   rw [if_pos c17] at H
   have c17b0 : decide (x17_1 < (t142.length : Int)) = true := decide_eq_true c17
   clear c17
   by_cases c18 : 0 ≤ x17_1
   rotate_left
   ·rw [if_neg c18] at H
    exact absurd H (by simp)
   rw [if_pos c18] at H
   have c18b0 : decide (0 ≤ x17_1) = true := decide_eq_true c18
   clear c18
   by_cases c19 : x17_1 < (t142.length : Int)
   rotate_left
   ·rw [if_neg c19] at H
    exact absurd H (by simp)
   rw [if_pos c19] at H
   have c19b0 : decide (x17_1 < (t142.length : Int)) = true := decide_eq_true c19
   clear c19
   have c20b0 := eq_true (of_decide_eq_true zh20 : 0 ≤ x17_1)
   obtain ⟨ji21, hji21⟩ : ∃ j_ : Int, (shl .i64 1 x17_1) = j_ := ⟨_, rfl⟩
   replace H : (spec_guNew.l1 k1 (rd t142 x17_1) ji21 t142 (t142.length : Int) x17_1 t142 (t142.length : Int) 0 a0_0 a0_1 l0_2 a1_0 a1_1 t142 x146001_1) = some (r1, r2) := by first | (rw [hji21] at H; exact H) | (simp only [hji21] at H ⊢; exact H)
   have hji21_ : (IntKind.i64.wrap (1 * 2 ^ min x17_1.toNat 64)) = ji21 := hji21
   have hji21z : x17_1 ≤ 64 → (IntKind.i64.wrap (1 * 2 ^ x17_1.toNat)) = ji21 := shl_small hji21
   have hji21u : (IntKind.i64.wrap (2 ^ min x17_1.toNat 64)) = ji21 := by have h_ := hji21_; rw [Int.one_mul] at h_; exact h_
   have hji21v : x17_1 ≤ 64 → (IntKind.i64.wrap (2 ^ x17_1.toNat)) = ji21 := fun hle_ => by have h_ := hji21z hle_; rw [Int.one_mul] at h_; exact h_
   have hji21y : (wrap64 (1 * 2 ^ min x17_1.toNat 64)) = ji21 := (i64_w _).symm.trans hji21_
   have hji21x : x17_1 ≤ 64 → (wrap64 (1 * 2 ^ x17_1.toNat)) = ji21 := fun h_ => (i64_w _).symm.trans (hji21z h_)
   have H' := Aside0.mk H
   clear H
   have p146 : 0 ≤ (x17_1 : Int) := of_decide_eq_true zh20
   have q146 : x17_1 < (t142.length : Int) := of_decide_eq_true zh20
   obtain ⟨ad146, e146, hx146_0⟩ := Kd.at_int (Kd.R_reads' HO_15.out).2.2 x17_1 p146 q146
   cases e146
   replace p146 := eq_true p146
   replace q146 := eq_true q146
   have hnb22 := NB145_139.out
   have hnc22 := NB139_145.out
   have hnb23 := NB145_140.out
   have hnc23 := NB140_145.out
   have hnb24 := NB145_141.out
   have hnc24 := NB141_145.out
   have hcz25_0 : wr.cell? ⟨gb145, 0, none⟩ = some (.slice (some ad146) t142.length co11) := (blk_cell BK145.out 0).trans rfl
   have hcz25_1 : wr.cell? ⟨gb145, 1, none⟩ = some (u146001) := (blk_cell BK145.out 1).trans rfl
   have hfz25_0 := blk_frozen BK145.out 0
   have hfz25_1 := blk_frozen BK145.out 1
   go_wp2
   go_loopg [8, 27] k1 (fun kq v8 v27 w' => ∃ (x8_2 : Int) (x27_2 : Int), v8 = .int .i64 x8_2 ∧ v27 = .int .i64 x27_2 ∧ Aside0 (spec_guNew.l1 kq (rd t142 x17_1) x8_2 t142 (t142.length : Int) x17_1 t142 (t142.length : Int) x27_2 a0_0 a0_1 l0_2 a1_0 a1_1 t142 x146001_1 = some (r1, r2)) ∧ Aside0 (kq ≤ k1) ∧ Aside0 (Kd.R (Kd.int .i64) 3 w' w.heap.size (fun k_ => some k_ ≠ (u146001 : Value).ownBlock) (.slice (some ad146) t142.length co11) t142) ∧ Aside0 (Kd.R (Kd.int .i64) 3 w' w.heap.size (fun k_ => some k_ ≠ (u146001 : Value).ownBlock) (.slice (some ad146) t142.length co11) t142) ∧ Aside0 (Kd.R (Kd.int .i64) 3 w' w.heap.size (fun k_ => some k_ ≠ (u146001 : Value).ownBlock) (.slice (some ad146) t142.length co11) t142) ∧ Aside0 (Kd.R (Kd.int .i64) 3 w' w.heap.size (fun k_ => some k_ ≠ ((.slice (some ad146) t142.length co11) : Value).ownBlock ∧ some k_ ≠ ((.slice (some ad146) t142.length co11) : Value).ownBlock ∧ some k_ ≠ ((.slice (some ad146) t142.length co11) : Value).ownBlock) u146001 x146001_1) ∧ Aside0 (w'.heap[gb139]? = some (.cells #[.int .i64 a0_0, .int .i64 a0_1, (.slice A0_2 l0_2.length c0_2)] 30 (0, 0))) ∧ Aside0 (w'.heap[gb140]? = some (.cells #[.int .i64 a1_0, .int .i64 a1_1] 32 (0, 0))) ∧ Aside0 (w'.heap[gb141]? = some (.cells #[(.slice none 0 0), (.slice none 0 0)] 45 (0, 0))) ∧ Aside0 (w'.heap[gb145]? = some (.cells #[(.slice (some ad146) t142.length co11), u146001] 45 (0, 0))) ∧ Aside0 (Below w.heap.size w w'))
   case atStart => exact ⟨(ji21), (0), (by first | rfl | (simp; done) | (simp only [← hji21] <;> (first | rfl | simp)) | (simp [*]; done)), zh22, H', ⟨Nat.le_refl _⟩, ⟨zh14⟩, ⟨zh11⟩, ⟨zh11⟩, ⟨by (with_reducible repeat (first | apply Kd.R_alloc | apply Kd.R_drewN | apply Kd.R_drew)); exact Kd.R_mono HO_146001.out (fun _ hk => ⟨hk.1, ⟨hk.2, hk.2⟩⟩)⟩, ⟨zh2⟩, ⟨zh3⟩, ⟨zh5⟩, ⟨zh12⟩, ⟨zh1⟩⟩
   case round =>
    clear H'
    try clear c1; try clear p1; try clear q1; try clear hx1; try clear c2; try clear p2; try clear c3; try clear p6; try clear c7; try clear c8; try clear c13; try clear c14; try clear p14; try clear q14; try clear hx14; try clear c15; try clear c17; try clear c17b0; try clear c18; try clear c18b0; try clear c19; try clear c19b0; try clear c20; try clear c20b0; try clear c22; try clear c23; try clear c24; try clear hcz16_0; try clear hcz16_1; try clear hcz25_0; try clear hcz25_1; try clear hcz9_0; try clear hcz9_1; try clear hcz9_2; try clear hfz16_0; try clear hfz16_1; try clear hfz25_0; try clear hfz25_1
    try clear hfz9_0; try clear hfz9_1; try clear hfz9_2; try clear hx146_0; try clear p146; try clear p2; try clear q146
    obtain ⟨x8_2, x27_2, rfl, rfl, HA, HK2, HO_15, HO_25, HO_146000, HO_146001, BK139, BK140, BK141, BK145, HB⟩ := hrel
    cases gk with
    | zero => exact absurd HA.out (by simp [spec_guNew.l1])
    | succ k2 =>
     have H := HA.out
     clear HA
     simp only [spec_guNew.l1] at H
     by_cases c26 : x27_2 < (t142.length : Int)
     rotate_left
     ·rw [if_neg c26] at H
      have c26b0 : decide (x27_2 < (t142.length : Int)) = false := decide_eq_false c26
      clear c26
      by_cases c49 : x146001_1.length < 17592186044416
      rotate_left
      ·rw [if_neg c49] at H
       exact absurd H (by simp)
      rw [if_pos c49] at H
      have LMc49 := Aside0.mk c49
      clear c49
      obtain ⟨y149, hy149⟩ : ∃ y_ : List Int, y_ = (x146001_1 ++ [x8_2]) := ⟨_, rfl⟩
      replace H : (spec_guNew.l0 k2 t142 (t142.length : Int) (wrap64 (x17_1 + 1)) a0_0 a0_1 l0_2 a1_0 a1_1 t142 y149) = some (r1, r2) := by first | (rw [hy149]; with_reducible exact H) | (have H2_ := (Option.bind_some _ _).symm.trans H; rw [hy149]; with_reducible exact H2_) | (have H2_ := (Option.bind_some _ _).symm.trans H; with_reducible exact H2_) | with_reducible exact H | (rw [hy149]; exact H) | exact H
      have Ny149 := Aside0.mk hy149
      clear hy149
      have H' := Aside0.mk H
      clear H
      have hnb50 := NB145_139.out
      have hnc50 := NB139_145.out
      have hnb51 := NB145_140.out
      have hnc51 := NB140_145.out
      have hnb52 := NB145_141.out
      have hnc52 := NB141_145.out
      have hcz53_0 : wr.cell? ⟨gb145, 0, none⟩ = some (.slice (some ad146) t142.length co11) := (blk_cell BK145.out 0).trans rfl
      have hcz53_1 : wr.cell? ⟨gb145, 1, none⟩ = some (u146001) := (blk_cell BK145.out 1).trans rfl
      have hfz53_0 := blk_frozen BK145.out 0
      have hfz53_1 := blk_frozen BK145.out 1
      go_wp2_with (first | ((with_reducible refine gate_builtin (b := .append) (xs := #[.tmp 43, .tmp 45]) rfl ?_); at_builtin; refine Kd.R_append (Kd.int .i64) (w0 := w) w.heap.size rfl (.tmp 43) (.tmp 45) 22 3 (.int .i64 0) 8 rfl Try.underlying22 info3 rfl (by decide) (by omega) u146001 x146001_1 x8_2 [.int .i64 x8_2] (fun k_ => some k_ ≠ (.slice (some ad146) t142.length co11 : Value).ownBlock ∧ some k_ ≠ (.slice (some ad146) t142.length co11 : Value).ownBlock ∧ some k_ ≠ (.slice (some ad146) t142.length co11 : Value).ownBlock) (fun _ => False) rfl rfl ?aP (fun _ hk => hk.elim) ?aF ?aO ?aB ?aS ?aL ?_; (case aP => exact rfl); (case aB => exact zh1); (case aF => exact (fun k_ hk => ⟨Kd.fresh' (Kd.R_lt zh14) k_ hk, Kd.fresh' (Kd.R_lt zh16) k_ hk, Kd.fresh' (Kd.R_lt zh11) k_ hk⟩)); (case aO => exact zh15); (case aS => exact (below_size zh1)); (case aL => have := LMc49.out; omega); intro v150 w54 ho hb hg hat; rw [← Ny149.out] at ho; have n0_ := Aside0.mk (Kd.R_after (ok := (fun _ => True)) (by (with_reducible repeat (first | apply Kd.R_alloc | apply Kd.R_drewN | apply Kd.R_drew)); exact Kd.R_mono HO_15.out (fun _ hk => ⟨trivial, hk⟩)) hg hat); have n1_ := Aside0.mk (Kd.R_after (ok := (fun _ => True)) (by (with_reducible repeat (first | apply Kd.R_alloc | apply Kd.R_drewN | apply Kd.R_drew)); exact Kd.R_mono HO_25.out (fun _ hk => ⟨trivial, hk⟩)) hg hat); have n2_ := Aside0.mk (Kd.R_after (ok := (fun _ => True)) (by (with_reducible repeat (first | apply Kd.R_alloc | apply Kd.R_drewN | apply Kd.R_drew)); exact Kd.R_mono HO_146000.out (fun _ hk => ⟨trivial, hk⟩)) hg hat); have n3_ := Aside0.mk (blk_grown (g := gb139) (o := .cells #[.int .i64 a0_0, .int .i64 a0_1, .slice A0_2 l0_2.length c0_2] 30 (0, 0)) zh2 hg (Kd.R_ne HO_146001.out BK139.out (by decide))); have n4_ := Aside0.mk (blk_grown (g := gb140) (o := .cells #[.int .i64 a1_0, .int .i64 a1_1] 32 (0, 0)) zh3 hg (Kd.R_ne HO_146001.out BK140.out (by decide))); have n5_ := Aside0.mk (blk_grown (g := gb141) (o := .cells #[.slice none 0 0, .slice none 0 0] 45 (0, 0)) zh5 hg (Kd.R_ne HO_146001.out BK141.out (by decide))); have n6_ := Aside0.mk (blk_grown (g := gb145) (o := .cells #[.slice (some ad146) t142.length co11, u146001] 45 (0, 0)) zh12 hg (Kd.R_ne HO_146001.out BK145.out (by decide))); have n7_ := Aside0.mk (hb); have n8_ := Aside0.mk (ho); clear HO_15; clear HO_25; clear HO_146000; clear BK139; clear BK140; clear BK141; clear BK145; clear HB; clear HO_146001; have HO_15 := n0_; have HO_25 := n1_; have HO_146000 := n2_; have BK139 := n3_; have BK140 := n4_; have BK141 := n5_; have BK145 := n6_; have HB := n7_; have HO151 := n8_; clear n0_ n1_ n2_ n3_ n4_ n5_ n6_ n7_ n8_; clear ho hb hg hat; obtain ⟨Ao55, co55, eo55⟩ := Kd.R_slice HO151.out; subst eo55; have hcz56_0 : w54.cell? ⟨gb145, 0, none⟩ = some (.slice (some ad146) t142.length co11) := (blk_cell BK145.out 0).trans rfl; have hcz56_1 : w54.cell? ⟨gb145, 1, none⟩ = some (u146001) := (blk_cell BK145.out 1).trans rfl; have hfz56_0 := blk_frozen BK145.out 0; have hfz56_1 := blk_frozen BK145.out 1))
      go_roundg k2
      case measure => have := HK1.out; have := HK2.out; omega
      case rel => exact ⟨(wrap64 (x17_1 + 1)), (y149), (.slice Ao55 y149.length co55), zh22, H', ⟨by have := HK1.out; have := HK2.out; omega⟩, ⟨by (with_reducible repeat (first | apply Kd.R_alloc | apply Kd.R_drewN | apply Kd.R_drew)); exact Kd.R_mono (Kd.R_far (p := ⟨gb145, 1, none⟩) (Kd.R_types HO_15.out BK145.out (by decide)) (fun _ hk => hk.2) (.slice Ao55 y149.length co55)) (fun _ hk => hk.1.2)⟩, ⟨by (with_reducible repeat (first | apply Kd.R_alloc | apply Kd.R_drewN | apply Kd.R_drew)); exact Kd.R_mono (Kd.R_far (p := ⟨gb145, 1, none⟩) (Kd.R_types HO_146000.out BK145.out (by decide)) (fun _ hk => hk.2) (.slice Ao55 y149.length co55)) (fun _ hk => hk.1.2)⟩, ⟨by (with_reducible repeat (first | apply Kd.R_alloc | apply Kd.R_drewN | apply Kd.R_drew)); exact Kd.R_mono (Kd.R_far (p := ⟨gb145, 1, none⟩) (Kd.R_types HO151.out BK145.out (by decide)) (fun _ hk => hk.2) (.slice Ao55 y149.length co55)) (fun _ hk => ⟨hk.1.1, hk.1.2.2⟩)⟩, ⟨by (with_reducible repeat (first | refine blk_drewN ?_ _ | refine blk_drew ?_ | refine blk_alloc ?_ _)); refine blk_far ?_ NB139_145.out _; first | exact BK139.out | ((with_reducible repeat (first | refine blk_drewN ?_ _ | refine blk_drew ?_ | refine blk_alloc ?_ _)); exact BK139.out)⟩, ⟨by (with_reducible repeat (first | refine blk_drewN ?_ _ | refine blk_drew ?_ | refine blk_alloc ?_ _)); refine blk_far ?_ NB140_145.out _; first | exact BK140.out | ((with_reducible repeat (first | refine blk_drewN ?_ _ | refine blk_drew ?_ | refine blk_alloc ?_ _)); exact BK140.out)⟩, ⟨by (with_reducible repeat (first | refine blk_drewN ?_ _ | refine blk_drew ?_ | refine blk_alloc ?_ _)); refine blk_far ?_ NB141_145.out _; first | exact BK141.out | ((with_reducible repeat (first | refine blk_drewN ?_ _ | refine blk_drew ?_ | refine blk_alloc ?_ _)); exact BK141.out)⟩, ⟨by (with_reducible repeat (first | refine blk_drewN ?_ _ | refine blk_drew ?_ | refine blk_alloc ?_ _)); refine blk_put (cs := #[.slice (some ad146) t142.length co11, u146001]) ?_ 1 _ rfl; first | exact BK145.out | ((with_reducible repeat (first | refine blk_drewN ?_ _ | refine blk_drew ?_ | refine blk_alloc ?_ _)); exact BK145.out)⟩, ⟨zh1⟩⟩
     rw [if_pos c26] at H
     have c26b0 : decide (x27_2 < (t142.length : Int)) = true := decide_eq_true c26
     clear c26
     by_cases c27 : 0 ≤ x27_2
     rotate_left
     ·rw [if_neg c27] at H
      exact absurd H (by simp)
     rw [if_pos c27] at H
     have c27b0 : decide (0 ≤ x27_2) = true := decide_eq_true c27
     clear c27
     by_cases c28 : x27_2 < (t142.length : Int)
     rotate_left
     ·rw [if_neg c28] at H
      exact absurd H (by simp)
     rw [if_pos c28] at H
     have c28b0 : decide (x27_2 < (t142.length : Int)) = true := decide_eq_true c28
     clear c28
     replace H := Option.bind_eq_some_iff.mp H
     obtain ⟨t148, A290, H⟩ := H
     replace H : (if t148 = true then (spec_guNew.l1 k2 (rd t142 x17_1) (Go.bits .or .i64 x8_2 (shl .i64 1 x27_2)) t142 (t142.length : Int) x17_1 t142 (t142.length : Int) (wrap64 (x27_2 + 1)) a0_0 a0_1 l0_2 a1_0 a1_1 t142 x146001_1) else (spec_guNew.l1 k2 (rd t142 x17_1) x8_2 t142 (t142.length : Int) x17_1 t142 (t142.length : Int) (wrap64 (x27_2 + 1)) a0_0 a0_1 l0_2 a1_0 a1_1 t142 x146001_1)) = some (r1, r2) := H
     have A29 := Aside0.mk A290
     clear A290
     by_cases c30 : t148 = true
     rotate_left
     ·replace c30 := Bool.eq_false_iff.mpr c30
      subst c30
      have H1 : (spec_guNew.l1 k2 (rd t142 x17_1) x8_2 t142 (t142.length : Int) x17_1 t142 (t142.length : Int) (wrap64 (x27_2 + 1)) a0_0 a0_1 l0_2 a1_0 a1_1 t142 x146001_1) = some (r1, r2) := by rw [if_neg (show ¬ (false = true) by decide)] at H; exact H
      clear H
      have H := H1
      clear H1
      have H' := Aside0.mk H
      clear H
      have p147 : 0 ≤ (x27_2 : Int) := of_decide_eq_true zh20
      have q147 : x27_2 < (t142.length : Int) := of_decide_eq_true zh20
      obtain ⟨ad147, e147, hx147_0⟩ := Kd.at_int (Kd.R_reads' HO_25.out).2.2 x27_2 p147 q147
      obtain rfl : ad146 = ad147 := (by injection e147)
      replace p147 := eq_true p147
      replace q147 := eq_true q147
      have hnb41 := NB139_140.out
      have hnc41 := NB140_139.out
      have hnb42 := NB139_141.out
      have hnc42 := NB141_139.out
      have hnb43 := NB139_145.out
      have hnc43 := NB145_139.out
      have hcz44_0 : wr.cell? ⟨gb139, 0, none⟩ = some (.int .i64 a0_0) := (blk_cell BK139.out 0).trans rfl
      have hcz44_1 : wr.cell? ⟨gb139, 1, none⟩ = some (.int .i64 a0_1) := (blk_cell BK139.out 1).trans rfl
      have hcz44_2 : wr.cell? ⟨gb139, 2, none⟩ = some (.slice A0_2 l0_2.length c0_2) := (blk_cell BK139.out 2).trans rfl
      have hfz44_0 := blk_frozen BK139.out 0
      have hfz44_1 := blk_frozen BK139.out 1
      have hfz44_2 := blk_frozen BK139.out 2
      have hnb45 := NB140_141.out
      have hnc45 := NB141_140.out
      have hnb46 := NB140_145.out
      have hnc46 := NB145_140.out
      have hcz47_0 : wr.cell? ⟨gb140, 0, none⟩ = some (.int .i64 a1_0) := (blk_cell BK140.out 0).trans rfl
      have hcz47_1 : wr.cell? ⟨gb140, 1, none⟩ = some (.int .i64 a1_1) := (blk_cell BK140.out 1).trans rfl
      have hfz47_0 := blk_frozen BK140.out 0
      have hfz47_1 := blk_frozen BK140.out 1
      go_wp2_with (first | ((with_reducible refine gate_callee (f := 33) rfl ?_); refine goesL_ (some 36) rfl rfl Try.func33 (by kernel_rfl) rfl #[.agg #[.int .i64 a0_0, .int .i64 a0_1, .slice A0_2 l0_2.length c0_2], .agg #[.int .i64 a1_0, .int .i64 a1_1], .int .i64 (rd t142 x17_1), .int .i64 (rd t142 x27_2)] rfl zh13 ?_; (with_reducible refine (spec_boIs.calls a0_0 a0_1 _ _ l0_2 a1_0 a1_1 (rd t142 x17_1) (rd t142 x27_2) false _ ?side1 ?side2 A29.out).mono ?_); (case side1 => exact zh9); (case side2 => exact HC0_2.out); rintro e w48 ⟨rfl, hb⟩; refine ⟨_, rfl, ?_⟩; have n0_ := Aside0.mk (Kd.R_below zh14 hb); have n1_ := Aside0.mk (Kd.R_below zh16 hb); have n2_ := Aside0.mk (Kd.R_below zh11 hb); have n3_ := Aside0.mk (Kd.R_below zh15 hb); have n4_ := Aside0.mk (blk_below (g := gb139) (o := .cells #[.int .i64 a0_0, .int .i64 a0_1, .slice A0_2 l0_2.length c0_2] 30 (0, 0)) zh2 hb); have n5_ := Aside0.mk (blk_below (g := gb140) (o := .cells #[.int .i64 a1_0, .int .i64 a1_1] 32 (0, 0)) zh3 hb); have n6_ := Aside0.mk (blk_below (g := gb141) (o := .cells #[.slice none 0 0, .slice none 0 0] 45 (0, 0)) zh5 hb); have n7_ := Aside0.mk (blk_below (g := gb145) (o := .cells #[.slice (some ad146) t142.length co11, u146001] 45 (0, 0)) zh12 hb); have n8_ := Aside0.mk (below_step zh1 hb); clear HO_15; clear HO_25; clear HO_146000; clear HO_146001; clear BK139; clear BK140; clear BK141; clear BK145; clear HB; have HO_15 := n0_; have HO_25 := n1_; have HO_146000 := n2_; have HO_146001 := n3_; have BK139 := n4_; have BK140 := n5_; have BK141 := n6_; have BK145 := n7_; have HB := n8_; clear n0_ n1_ n2_ n3_ n4_ n5_ n6_ n7_ n8_; (try clear hb); (try clear hb2); (try clear hk); (try clear hi); (try clear hna_); (try clear hnb_)))
      go_roundg k2
      case measure => have := HK1.out; have := HK2.out; omega
      case rel => exact ⟨(x8_2), (wrap64 (x27_2 + 1)), zh22, zh22, H', ⟨by have := HK1.out; have := HK2.out; omega⟩, ⟨zh14⟩, ⟨zh16⟩, ⟨zh11⟩, ⟨zh15⟩, ⟨zh2⟩, ⟨zh3⟩, ⟨zh5⟩, ⟨zh12⟩, ⟨zh1⟩⟩
     subst c30
     have H1 : (spec_guNew.l1 k2 (rd t142 x17_1) (Go.bits .or .i64 x8_2 (shl .i64 1 x27_2)) t142 (t142.length : Int) x17_1 t142 (t142.length : Int) (wrap64 (x27_2 + 1)) a0_0 a0_1 l0_2 a1_0 a1_1 t142 x146001_1) = some (r1, r2) := by rw [if_pos rfl] at H; exact H
     clear H
     have H := H1
     clear H1
     have c31b0 := eq_true (of_decide_eq_true zh20 : 0 ≤ x27_2)
     obtain ⟨ji32, hji32⟩ : ∃ j_ : Int, (shl .i64 1 x27_2) = j_ := ⟨_, rfl⟩
     replace H : (spec_guNew.l1 k2 (rd t142 x17_1) (Go.bits .or .i64 x8_2 (ji32)) t142 (t142.length : Int) x17_1 t142 (t142.length : Int) (wrap64 (x27_2 + 1)) a0_0 a0_1 l0_2 a1_0 a1_1 t142 x146001_1) = some (r1, r2) := by first | (rw [hji32] at H; exact H) | (simp only [hji32] at H ⊢; exact H)
     (try rw [hji32] at A29)
     have hji32_ : (IntKind.i64.wrap (1 * 2 ^ min x27_2.toNat 64)) = ji32 := hji32
     have hji32z : x27_2 ≤ 64 → (IntKind.i64.wrap (1 * 2 ^ x27_2.toNat)) = ji32 := shl_small hji32
     have hji32u : (IntKind.i64.wrap (2 ^ min x27_2.toNat 64)) = ji32 := by have h_ := hji32_; rw [Int.one_mul] at h_; exact h_
     have hji32v : x27_2 ≤ 64 → (IntKind.i64.wrap (2 ^ x27_2.toNat)) = ji32 := fun hle_ => by have h_ := hji32z hle_; rw [Int.one_mul] at h_; exact h_
     have hji32y : (wrap64 (1 * 2 ^ min x27_2.toNat 64)) = ji32 := (i64_w _).symm.trans hji32_
     have hji32x : x27_2 ≤ 64 → (wrap64 (1 * 2 ^ x27_2.toNat)) = ji32 := fun h_ => (i64_w _).symm.trans (hji32z h_)
     have H' := Aside0.mk H
     clear H
     have p147 : 0 ≤ (x27_2 : Int) := of_decide_eq_true zh20
     have q147 : x27_2 < (t142.length : Int) := of_decide_eq_true zh20
     obtain ⟨ad147, e147, hx147_0⟩ := Kd.at_int (Kd.R_reads' HO_25.out).2.2 x27_2 p147 q147
     obtain rfl : ad146 = ad147 := (by injection e147)
     replace p147 := eq_true p147
     replace q147 := eq_true q147
     have hnb33 := NB139_140.out
     have hnc33 := NB140_139.out
     have hnb34 := NB139_141.out
     have hnc34 := NB141_139.out
     have hnb35 := NB139_145.out
     have hnc35 := NB145_139.out
     have hcz36_0 : wr.cell? ⟨gb139, 0, none⟩ = some (.int .i64 a0_0) := (blk_cell BK139.out 0).trans rfl
     have hcz36_1 : wr.cell? ⟨gb139, 1, none⟩ = some (.int .i64 a0_1) := (blk_cell BK139.out 1).trans rfl
     have hcz36_2 : wr.cell? ⟨gb139, 2, none⟩ = some (.slice A0_2 l0_2.length c0_2) := (blk_cell BK139.out 2).trans rfl
     have hfz36_0 := blk_frozen BK139.out 0
     have hfz36_1 := blk_frozen BK139.out 1
     have hfz36_2 := blk_frozen BK139.out 2
     have hnb37 := NB140_141.out
     have hnc37 := NB141_140.out
     have hnb38 := NB140_145.out
     have hnc38 := NB145_140.out
     have hcz39_0 : wr.cell? ⟨gb140, 0, none⟩ = some (.int .i64 a1_0) := (blk_cell BK140.out 0).trans rfl
     have hcz39_1 : wr.cell? ⟨gb140, 1, none⟩ = some (.int .i64 a1_1) := (blk_cell BK140.out 1).trans rfl
     have hfz39_0 := blk_frozen BK140.out 0
     have hfz39_1 := blk_frozen BK140.out 1
     go_wp2_with (first | ((with_reducible refine gate_callee (f := 33) rfl ?_); refine goesL_ (some 36) rfl rfl Try.func33 (by kernel_rfl) rfl #[.agg #[.int .i64 a0_0, .int .i64 a0_1, .slice A0_2 l0_2.length c0_2], .agg #[.int .i64 a1_0, .int .i64 a1_1], .int .i64 (rd t142 x17_1), .int .i64 (rd t142 x27_2)] rfl zh13 ?_; (with_reducible refine (spec_boIs.calls a0_0 a0_1 _ _ l0_2 a1_0 a1_1 (rd t142 x17_1) (rd t142 x27_2) true _ ?side1 ?side2 A29.out).mono ?_); (case side1 => exact zh9); (case side2 => exact HC0_2.out); rintro e w40 ⟨rfl, hb⟩; refine ⟨_, rfl, ?_⟩; have n0_ := Aside0.mk (Kd.R_below zh14 hb); have n1_ := Aside0.mk (Kd.R_below zh16 hb); have n2_ := Aside0.mk (Kd.R_below zh11 hb); have n3_ := Aside0.mk (Kd.R_below zh15 hb); have n4_ := Aside0.mk (blk_below (g := gb139) (o := .cells #[.int .i64 a0_0, .int .i64 a0_1, .slice A0_2 l0_2.length c0_2] 30 (0, 0)) zh2 hb); have n5_ := Aside0.mk (blk_below (g := gb140) (o := .cells #[.int .i64 a1_0, .int .i64 a1_1] 32 (0, 0)) zh3 hb); have n6_ := Aside0.mk (blk_below (g := gb141) (o := .cells #[.slice none 0 0, .slice none 0 0] 45 (0, 0)) zh5 hb); have n7_ := Aside0.mk (blk_below (g := gb145) (o := .cells #[.slice (some ad146) t142.length co11, u146001] 45 (0, 0)) zh12 hb); have n8_ := Aside0.mk (below_step zh1 hb); clear HO_15; clear HO_25; clear HO_146000; clear HO_146001; clear BK139; clear BK140; clear BK141; clear BK145; clear HB; have HO_15 := n0_; have HO_25 := n1_; have HO_146000 := n2_; have HO_146001 := n3_; have BK139 := n4_; have BK140 := n5_; have BK141 := n6_; have BK145 := n7_; have HB := n8_; clear n0_ n1_ n2_ n3_ n4_ n5_ n6_ n7_ n8_; (try clear hb); (try clear hb2); (try clear hk); (try clear hi); (try clear hna_); (try clear hnb_)))
     go_roundg k2
     case measure => have := HK1.out; have := HK2.out; omega
     case rel => exact ⟨(Go.bits .or .i64 x8_2 (ji32)), (wrap64 (x27_2 + 1)), (by first | rfl | (simp; done) | (simp only [← hji32] <;> (first | rfl | simp)) | (simp [*]; done)), zh22, H', ⟨by have := HK1.out; have := HK2.out; omega⟩, ⟨zh14⟩, ⟨zh16⟩, ⟨zh11⟩, ⟨zh15⟩, ⟨zh2⟩, ⟨zh3⟩, ⟨zh5⟩, ⟨zh12⟩, ⟨zh1⟩⟩

end Go.Proofs.Ytfjomkjngolboaa.Q

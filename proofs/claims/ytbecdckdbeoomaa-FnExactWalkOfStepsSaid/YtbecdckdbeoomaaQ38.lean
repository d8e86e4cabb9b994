/- Written by a program of this session: functions of the translation as plain Lean functions, each with a proof that the call does what the plain function says; the conditions stand in each theorem. -/
import Derived.Test.YtbecdckdbeoomaaQ0
import Derived.Test.YtbecdckdbeoomaaQ2
import Derived.Test.YtbecdckdbeoomaaQ15
import Derived.Test.YtbecdckdbeoomaaQ37
namespace Go.Proofs.Ytbecdckdbeoomaa.Q
open Go.RowKit Go.Proofs.YtbecdckdbeoomaaW.PrintWords Go.Proofs.YtbecdckdbeoomaaW.PrintLast Go.Proofs.YtbecdckdbeoomaaW.PrintMore
attribute [local go_sem] max2_int min2_int max_two min_two max_three min_three max_four min_four   -- for this text's walks alone
set_option linter.unusedVariables false
set_option linter.unusedSimpArgs false

theorem zam1 {p : Prop} (h : p := by repeat (first | (with_reducible first | exact HB.out | apply below_alloc | apply pw_below_drewN | apply below_drew1 | refine below_set ?_ GE950.out | refine below_set ?_ GE951.out) | exact HB.out)) : p := h
theorem zam2 {p : Prop} (h : p := by repeat (first | (with_reducible first | exact HB.out | apply below_alloc | apply pw_below_drewN | apply below_drew1 | refine below_set ?_ GE950.out | refine below_set ?_ GE951.out | refine below_set ?_ GE958.out) | exact HB.out)) : p := h
theorem zam3 {p : Prop} (h : p := by first | exact BK950.out | ((with_reducible repeat (first | refine blk_drewN ?_ _ | refine blk_drew ?_ | refine blk_alloc ?_ _)); exact BK950.out)) : p := h
theorem zam4 {p : Prop} (h : p := by first | exact BK951.out | ((with_reducible repeat (first | refine blk_drewN ?_ _ | refine blk_drew ?_ | refine blk_alloc ?_ _)); exact BK951.out)) : p := h
theorem zam5 {p : Prop} (h : p := by first | exact Nat.le_trans HNB979.out hb.size | exact Nat.le_trans HNB979.out hg.size | exact Nat.le_trans HNB979.out (Nat.le_trans (by simp) hb.size) | exact Nat.le_trans HNB979.out (Nat.le_trans (by simp) hg.size) | (rw [hw]; simpa using HNB979.out) | exact HNB979.out) : p := h
theorem zam6 {p : Prop} (h : p := by first | exact BK958.out | ((with_reducible repeat (first | refine blk_drewN ?_ _ | refine blk_drew ?_ | refine blk_alloc ?_ _)); exact BK958.out)) : p := h
theorem zam7 {p : Prop} (h : p := by repeat (first | exact (Kd.C_below HR0_2.out HB.out) | (with_reducible refine Kd.C_alloc ?_ _) | (with_reducible refine Kd.C_drewN ?_ _) | (with_reducible refine Kd.C_drew ?_))) : p := h
theorem zam8 {p : Prop} (h : p := by repeat (first | (with_reducible first | exact HB.out | apply below_alloc | apply pw_below_drewN | apply below_drew1 | refine below_set ?_ GE950.out) | exact HB.out)) : p := h
theorem zam9 {p : Prop} (h : p := by first | (with_reducible assumption) | assumption) : p := h
theorem zam10 {p : Prop} (h : p := by repeat (first | (with_reducible first | exact HB.out | apply below_alloc | apply pw_below_drewN | apply below_drew1) | exact HB.out)) : p := h
theorem zam11 {p : Prop} (h : p := by first | exact HO954.out | ((with_reducible repeat (first | apply Kd.R_alloc | apply Kd.R_drewN | apply Kd.R_drew)); exact HO954.out)) : p := h
theorem zam12 {p : Prop} (h : p := by first | exact HO_959005.out | ((with_reducible repeat (first | apply Kd.R_alloc | apply Kd.R_drewN | apply Kd.R_drew)); exact HO_959005.out)) : p := h
theorem zam13 {p : Prop} (h : p := by first | exact HO_13.out | ((with_reducible repeat (first | apply Kd.R_alloc | apply Kd.R_drewN | apply Kd.R_drew)); exact HO_13.out)) : p := h
theorem zam14 {p : Prop} (h : p := by repeat (first | exact (Kd.S_reads' HO_959006.out).2.2 | (with_reducible refine Kd.C_alloc ?_ _) | (with_reducible refine Kd.C_drewN ?_ _) | (with_reducible refine Kd.C_drew ?_))) : p := h
theorem zam15 {p : Prop} (h : p := by repeat (first | exact (Kd.R_reads' HO_959005.out).2.2 | (with_reducible refine Kd.C_alloc ?_ _) | (with_reducible refine Kd.C_drewN ?_ _) | (with_reducible refine Kd.C_drew ?_))) : p := h
theorem zam16 {p : Prop} (h : p := by repeat (first | exact (Kd.R_reads' HO_13.out).2.2 | (with_reducible refine Kd.C_alloc ?_ _) | (with_reducible refine Kd.C_drewN ?_ _) | (with_reducible refine Kd.C_drew ?_))) : p := h
theorem zam17 {p : Prop} (h : p := by first | exact HO957.out | ((with_reducible repeat (first | apply Kd.S_alloc | apply Kd.S_drewN | apply Kd.S_drew)); exact HO957.out)) : p := h
theorem zam18 {p : Prop} (h : p := by first | exact HO_959006.out | ((with_reducible repeat (first | apply Kd.S_alloc | apply Kd.S_drewN | apply Kd.S_drew)); exact HO_959006.out)) : p := h
theorem zam19 {p : Prop} (h : p := by first | exact HO_12.out | ((with_reducible repeat (first | apply Kd.S_alloc | apply Kd.S_drewN | apply Kd.S_drew)); exact HO_12.out)) : p := h
theorem zam20 {p : Prop} (h : p := by first | exact Kd.R_nil _ _ _ _ _ | exact Kd.N_nil _ _ _ _ _ | exact Kd.V_nil _ _ _ _ _ | exact Kd.Q_nil _ _ _ _ _ | exact Kd.S_nil _ _ _ _ _) : p := h
theorem zam21 {p : Prop} (h : p := by (with_reducible repeat (first | apply Kd.R_alloc | apply Kd.R_drewN | apply Kd.R_drew)); exact Kd.R_mono HL972_0.out (fun _ hk => ⟨⟨hk.2, ⟨hk.1.2.1, ⟨hk.1.2.2.1, hk.1.2.2.2⟩⟩⟩, hk.1.1⟩)) : p := h
theorem zam22 {p : Prop} (h : p := by (with_reducible repeat (first | apply Kd.R_alloc | apply Kd.R_drewN | apply Kd.R_drew)); exact Kd.R_mono HL970_0.out (fun _ hk => ⟨⟨hk.2, ⟨hk.1.2.1, ⟨hk.1.2.2.1, hk.1.2.2.2⟩⟩⟩, hk.1.1⟩)) : p := h
theorem zam23 {p : Prop} (h : p := by repeat (first | (with_reducible exact HR972_0.out) | (with_reducible refine Kd.C_alloc ?_ _) | (with_reducible refine Kd.C_drewN ?_ _) | (with_reducible refine Kd.C_drew ?_) | exact HR972_0.out)) : p := h
theorem zam24 {p : Prop} (h : p := by repeat (first | (with_reducible exact HR970_0.out) | (with_reducible refine Kd.C_alloc ?_ _) | (with_reducible refine Kd.C_drewN ?_ _) | (with_reducible refine Kd.C_drew ?_) | exact HR970_0.out)) : p := h
theorem zam25 {p : Prop} (h : p := by (with_reducible repeat (first | apply Kd.S_alloc | apply Kd.S_drewN | apply Kd.S_drew)); exact Kd.S_mono HO_959006.out (fun _ hk => ⟨⟨hk.1, ⟨hk.2.2.1, hk.2.2.2⟩⟩, hk.2.1⟩)) : p := h
theorem zam26 {p : Prop} (h : p := by (with_reducible repeat (first | apply Kd.S_alloc | apply Kd.S_drewN | apply Kd.S_drew)); exact Kd.S_mono HO_12.out (fun _ hk => ⟨⟨hk.2.1, ⟨hk.2.2.1, hk.2.2.2⟩⟩, hk.1⟩)) : p := h
theorem zam27 {p : Prop} (h : p := by (with_reducible repeat (first | apply Kd.R_alloc | apply Kd.R_drewN | apply Kd.R_drew)); exact Kd.R_mono HO_959005.out (fun _ hk => ⟨trivial, hk⟩)) : p := h
theorem zam28 {p : Prop} (h : p := by first | rfl | (simp [errW_none, errW_some] <;> rfl) | (simp only [← hji33]; first | rfl | (simp [errW_none, errW_some] <;> rfl)) | (simp [*, errW_none, errW_some] <;> rfl)) : p := h
theorem zam29 {p : Prop} (h : p := by first | exact HO963.out | ((with_reducible repeat (first | apply Kd.S_alloc | apply Kd.S_drewN | apply Kd.S_drew)); exact HO963.out)) : p := h
theorem zam30 {p : Prop} (h : p := by first | rfl | (simp [errW_none, errW_some] <;> rfl) | (simp [*, errW_none, errW_some] <;> rfl)) : p := h
theorem zam31 {p : Prop} (h : p := by first | exact HNB979.out | exact Nat.le_trans HNB979.out (by simp)) : p := h
theorem zam32 {p : Prop} (h : p := by first | rfl | (simp; done) | (simp [*]; done)) : p := h
theorem zam33 {p : Prop} (h : p := by rw [hg]; exact Nat.ne_of_lt (blk_lt (g := gb950) (o := .cells #[.int .i64 a0_0, .int .i64 a0_1, .slice A0_2 l0_2.length c0_2] 30 (0, 0)) zam3)) : p := h
theorem zam34 {p : Prop} (h : p := by rw [hg]; exact Nat.ne_of_gt (blk_lt (g := gb950) (o := .cells #[.int .i64 a0_0, .int .i64 a0_1, .slice A0_2 l0_2.length c0_2] 30 (0, 0)) zam3)) : p := h
theorem zam35 {p : Prop} (h : p := by exact (below_size zam1)) : p := h
theorem zam36 {p : Prop} (h : p := by first | exact q972 | exact of_decide_eq_true zam9 | (have e_ := (Kd.S_reads' HO_12.out).1; omega)) : p := h
theorem zam37 {p : Prop} (h : p := by first | exact q970 | exact of_decide_eq_true zam9 | (have e_ := (Kd.S_reads' HO_12.out).1; omega)) : p := h
theorem zam38 {p : Prop} (h : p := by rw [hg]; exact (below_size zam10)) : p := h
theorem zam39 {p : Prop} (h : p := by rw [hg]; exact (below_size zam8)) : p := h
/-! ### impl_WalkOfSteps: function 32 -/
mutual
def impl_WalkOfSteps.l0 : Nat → List (List Int) → List Int → List Int → Int → Int → Int → Int → List Int → Int → Int → List Int → Int → Int → List Int → List (List Int) → Option (List Int × Bool)
 | 0, _, _, _, _, _, _, _, _, _, _, _, _, _, _, _ => none
 | k + 1, x12, x13, x38, x39, x40, x951000, x951001, x951002, x959000, x959001, x959002, x959003, x959004, x959005, x959006 => if x40 < x39 then (if 0 ≤ x40 then (if x40 < (x38.length : Int) then (if (rd x38 x40) < 0 then (impl_WalkOfSteps.j1 k x12 x13 (rd x38 x40) x38 x39 x40 true x951000 x951001 x951002 x959000 x959001 x959002 x959003 x959004 x959005 x959006) else (impl_WalkOfSteps.j1 k x12 x13 (rd x38 x40) x38 x39 x40 (decide ((rd x38 x40) ≥ (x12.length : Int))) x951000 x951001 x951002 x959000 x959001 x959002 x959003 x959004 x959005 x959006)) else (none)) else (none)) else ((impl_graph_isWalk.f k x959000 x959001 x959002 x959003 x959004 x959005 x959006 x13).bind fun t967 => (if t967 = true then (some (x13, true)) else (some (([] : List Int), false))))
def impl_WalkOfSteps.j1 : Nat → List (List Int) → List Int → Int → List Int → Int → Int → Bool → Int → Int → List Int → Int → Int → List Int → Int → Int → List Int → List (List Int) → Option (List Int × Bool)
 | 0, _, _, _, _, _, _, _, _, _, _, _, _, _, _, _, _, _ => none
 | k + 1, x12, x13, x15, x38, x39, x40, x51, x951000, x951001, x951002, x959000, x959001, x959002, x959003, x959004, x959005, x959006 => if x51 = true then (some (([] : List Int), false)) else (if 0 ≤ (wrap64 ((x13.length : Int) - 1)) then (if (wrap64 ((x13.length : Int) - 1)) < (x13.length : Int) then (if x951000 = 0 then (none) else (if 0 ≤ x15 then (if x15 < (x12.length : Int) then (if 0 < ((rd_L1 x12 x15).length : Int) then (if 1 < ((rd_L1 x12 x15).length : Int) then (if (wrap64 ((Int.tmod (rd x13 (wrap64 ((x13.length : Int) - 1))) x951000) + (rd (rd_L1 x12 x15) 0))) < 0 then (some (([] : List Int), false)) else (if (wrap64 ((Int.tmod (rd x13 (wrap64 ((x13.length : Int) - 1))) x951000) + (rd (rd_L1 x12 x15) 0))) ≥ x951000 then (some (([] : List Int), false)) else (if (wrap64 ((wrap64 (Int.tdiv (rd x13 (wrap64 ((x13.length : Int) - 1))) x951000)) + (rd (rd_L1 x12 x15) 1))) < 0 then (some (([] : List Int), false)) else (if (wrap64 ((wrap64 (Int.tdiv (rd x13 (wrap64 ((x13.length : Int) - 1))) x951000)) + (rd (rd_L1 x12 x15) 1))) ≥ x951001 then (some (([] : List Int), false)) else (if x13.length < 17592186044416 then (impl_WalkOfSteps.l0 k x12 (x13 ++ [wrap64 ((wrap64 ((wrap64 ((wrap64 (Int.tdiv (rd x13 (wrap64 ((x13.length : Int) - 1))) x951000)) + (rd (rd_L1 x12 x15) 1))) * x951000)) + (wrap64 ((Int.tmod (rd x13 (wrap64 ((x13.length : Int) - 1))) x951000) + (rd (rd_L1 x12 x15) 0))))]) x38 x39 (wrap64 (x40 + 1)) x951000 x951001 x951002 x959000 x959001 x959002 x959003 x959004 x959005 x959006) else (none)))))) else (none)) else (none)) else (none)) else (none))) else (none)) else (none))
end
def impl_WalkOfSteps.f (k : Nat) (a0_0 : Int) (a0_1 : Int) (l0_2 : List Int) (a1_0 : Int) (a1_1 : Int) (a2 : Int) (l3 : List Int) : Option (List Int × Bool) := (impl_two.f k a0_0 a0_1 l0_2 a1_0 a1_1 a2 a2).bind fun bt952 => (if bt952.2.2 = true then (if (l3.length : Int) ≥ 64 then (some (([] : List Int), false)) else ((impl_Leaper_steps.f k a1_0 a1_1).bind fun t961 => (impl_WalkOfSteps.l0 k t961 (([a2] : List Int)) l3 (l3.length : Int) 0 a0_0 a0_1 l0_2 a0_0 a0_1 l0_2 a1_0 a1_1 bt952.1 bt952.2.1))) else (some (([] : List Int), false)))
set_option maxHeartbeats 8000000 in
set_option maxRecDepth 100000 in
theorem impl_WalkOfSteps.calls (k : Nat) (a0_0 : Int) (a0_1 : Int) (A0_2 : Option Addr) (c0_2 : Nat) (l0_2 : List Int) (a1_0 : Int) (a1_1 : Int) (a2 : Int) (A3 : Option Addr) (c3 : Nat) (l3 : List Int) (r1 : List Int) (r2 : Bool) (w : World) (hr0_2 : Kd.C (Kd.int .i64) w A0_2 l0_2.length l0_2) (hc0_2 : l0_2.length ≤ c0_2) (hr3 : Kd.C (Kd.int .i64) w A3 l3.length l3) (hc3 : l3.length ≤ c3) (h : impl_WalkOfSteps.f k a0_0 a0_1 l0_2 a1_0 a1_1 a2 l3 = some (r1, r2)) :
  Calls Try.prog 32 #[.agg #[.int .i64 a0_0, .int .i64 a0_1, .slice A0_2 l0_2.length c0_2], .agg #[.int .i64 a1_0, .int .i64 a1_1], .int .i64 a2, .slice A3 l3.length c3] w fun e w' => ∃ v0_ : Value, e = .returned (.tuple #[v0_, .bool r2]) ∧ Kd.R (Kd.int .i64) 3 w' w.heap.size (fun _ => True) v0_ r1 ∧ Below w.heap.size w w' := by
 have hu30 := Try.underlying30
 have hu32 := Try.underlying32
 have HR0_2 := Aside0.mk hr0_2
 have HC0_2 := Aside0.mk hc0_2
 clear hr0_2 hc0_2
 have HR3 := Aside0.mk hr3
 have HC3 := Aside0.mk hc3
 clear hr3 hc3
 have HB := Aside0.mk (Below.refl w.heap.size w)
 have H : ((impl_two.f k a0_0 a0_1 l0_2 a1_0 a1_1 a2 a2).bind fun bt952 => (if bt952.2.2 = true then (if (l3.length : Int) ≥ 64 then (some (([] : List Int), false)) else ((impl_Leaper_steps.f k a1_0 a1_1).bind fun t961 => (impl_WalkOfSteps.l0 k t961 (([a2] : List Int)) l3 (l3.length : Int) 0 a0_0 a0_1 l0_2 a0_0 a0_1 l0_2 a1_0 a1_1 bt952.1 bt952.2.1))) else (some (([] : List Int), false)))) = some (r1, r2) := h
 clear h
 replace H := Option.bind_eq_some_iff.mp H
 obtain ⟨⟨t952, t955, t960⟩, A50, H⟩ := H
 replace H : (if t960 = true then (if (l3.length : Int) ≥ 64 then (some (([] : List Int), false)) else ((impl_Leaper_steps.f k a1_0 a1_1).bind fun t961 => (impl_WalkOfSteps.l0 k t961 (([a2] : List Int)) l3 (l3.length : Int) 0 a0_0 a0_1 l0_2 a0_0 a0_1 l0_2 a1_0 a1_1 t952 t955))) else (some (([] : List Int), false))) = some (r1, r2) := H
 have A5 := Aside0.mk A50
 clear A50
 by_cases c6 : t960 = true
 rotate_left
 ·replace c6 := Bool.eq_false_iff.mpr c6
  subst c6
  have H1 : (some (([] : List Int), false)) = some (r1, r2) := by rw [if_neg (show ¬ (false = true) by decide)] at H; exact H
  clear H
  have H := H1
  clear H1
  simp only [Option.some.injEq, Prod.mk.injEq] at H
  obtain ⟨rfl, rfl⟩ := H
  go_enter Try.func32, Try.ntmps32
  go_wp2_with (first | ((with_reducible refine gate_dst (N := 4) rfl ?_); (try (refine gate_guard (by rfl) ?_; dsimp only)); refine box_event ?hg (N := 4) ?hd (cs := #[.int .i64 a0_0, .int .i64 a0_1, .slice A0_2 l0_2.length c0_2]) (t := 30) ?hr ?_; (case hd => rfl); (case hg => rfl); (case hr => first | (go_simp; done) | (go_simp; rfl)); intro gb950 hg w82 hbox hb; have n0_ := Aside0.mk (below_step zam10 hb); have n1_ := Aside0.mk (hbox); have n2_ := Aside0.mk ((zam38 : w.heap.size ≤ gb950)); have n3_ := Aside0.mk ((zam38 : w.heap.size ≤ gb950)); clear HB; have HB := n0_; have BK950 := n1_; have GW950 := n2_; have GE950 := n3_; clear n0_ n1_ n2_ n3_; clear hb hbox hg) | ((with_reducible refine gate_dst (N := 5) rfl ?_); (try (refine gate_guard (by rfl) ?_; dsimp only)); refine box_event ?hg (N := 5) ?hd (cs := #[.int .i64 a1_0, .int .i64 a1_1]) (t := 32) ?hr ?_; (case hd => rfl); (case hg => rfl); (case hr => first | (go_simp; done) | (go_simp; rfl)); intro gb951 hg w83 hbox hb; have n0_ := Aside0.mk (blk_below (g := gb950) (o := .cells #[.int .i64 a0_0, .int .i64 a0_1, .slice A0_2 l0_2.length c0_2] 30 (0, 0)) zam3 hb); have n1_ := Aside0.mk (below_step zam8 hb); have n2_ := Aside0.mk (hbox); have n3_ := Aside0.mk ((zam39 : w.heap.size ≤ gb951)); have n4_ := Aside0.mk ((zam39 : w.heap.size ≤ gb951)); have n5_ := Aside0.mk ((zam33 : gb950 ≠ gb951)); have n6_ := Aside0.mk ((zam34 : gb951 ≠ gb950)); clear BK950; clear HB; have BK950 := n0_; have HB := n1_; have BK951 := n2_; have GW951 := n3_; have GE951 := n4_; have NB950_951 := n5_; have NB951_950 := n6_; clear n0_ n1_ n2_ n3_ n4_ n5_ n6_; clear hb hbox hg; have hnb84 := NB950_951.out; have hnc84 := NB951_950.out; have hcz85_0 : w83.cell? ⟨gb950, 0, none⟩ = some (.int .i64 a0_0) := (blk_cell BK950.out 0).trans rfl; have hcz85_1 : w83.cell? ⟨gb950, 1, none⟩ = some (.int .i64 a0_1) := (blk_cell BK950.out 1).trans rfl; have hcz85_2 : w83.cell? ⟨gb950, 2, none⟩ = some (.slice A0_2 l0_2.length c0_2) := (blk_cell BK950.out 2).trans rfl; have hfz85_0 := blk_frozen BK950.out 0; have hfz85_1 := blk_frozen BK950.out 1; have hfz85_2 := blk_frozen BK950.out 2; have hcz86_0 : w83.cell? ⟨gb951, 0, none⟩ = some (.int .i64 a1_0) := (blk_cell BK951.out 0).trans rfl; have hcz86_1 : w83.cell? ⟨gb951, 1, none⟩ = some (.int .i64 a1_1) := (blk_cell BK951.out 1).trans rfl; have hfz86_0 := blk_frozen BK951.out 0; have hfz86_1 := blk_frozen BK951.out 1) | (go_at_call 66; (with_reducible refine (impl_two.calls k a0_0 a0_1 _ _ l0_2 a1_0 a1_1 a2 a2 t952 t955 false _ ?side1 ?side2 A5.out).mono ?_); (case side1 => exact zam7); (case side2 => exact HC0_2.out); rintro e w87 ⟨v953, v956, pv959, rfl, hgp, ho0, ho1, hb⟩; obtain rfl := hgp.2 rfl; have n0_ := Aside0.mk (Kd.R_lower ho0 (below_size zam1)); have n1_ := Aside0.mk (Kd.S_lower ho1 (below_size zam1)); have n2_ := Aside0.mk (blk_below (g := gb950) (o := .cells #[.int .i64 a0_0, .int .i64 a0_1, .slice A0_2 l0_2.length c0_2] 30 (0, 0)) zam3 hb); have n3_ := Aside0.mk (blk_below (g := gb951) (o := .cells #[.int .i64 a1_0, .int .i64 a1_1] 32 (0, 0)) zam4 hb); have n4_ := Aside0.mk (below_step zam1 hb); clear BK950; clear BK951; clear HB; have HO954 := n0_; have HO957 := n1_; have BK950 := n2_; have BK951 := n3_; have HB := n4_; clear n0_ n1_ n2_ n3_ n4_; (try clear hb); (try clear hb2); (try clear hk); (try clear hi); (try clear ho0); (try clear ho1); (try clear hgp); (try clear hbox); (try clear hge); (try clear hna_); (try clear hnb_)))
  repeat ((first | go_quiet (first | (go_at_call 66; (with_reducible refine (impl_two.calls k a0_0 a0_1 _ _ l0_2 a1_0 a1_1 a2 a2 t952 t955 false _ ?side1 ?side2 A5.out).mono ?_); (case side1 => exact zam7); (case side2 => exact HC0_2.out); rintro e w87 ⟨v953, v956, pv959, rfl, hgp, ho0, ho1, hb⟩; obtain rfl := hgp.2 rfl; have n0_ := Aside0.mk (Kd.R_lower ho0 (below_size zam1)); have n1_ := Aside0.mk (Kd.S_lower ho1 (below_size zam1)); have n2_ := Aside0.mk (blk_below (g := gb950) (o := .cells #[.int .i64 a0_0, .int .i64 a0_1, .slice A0_2 l0_2.length c0_2] 30 (0, 0)) zam3 hb); have n3_ := Aside0.mk (blk_below (g := gb951) (o := .cells #[.int .i64 a1_0, .int .i64 a1_1] 32 (0, 0)) zam4 hb); have n4_ := Aside0.mk (below_step zam1 hb); clear BK950; clear BK951; clear HB; have HO954 := n0_; have HO957 := n1_; have BK950 := n2_; have BK951 := n3_; have HB := n4_; clear n0_ n1_ n2_ n3_ n4_; (try clear hb); (try clear hb2); (try clear hk); (try clear hi); (try clear ho0); (try clear ho1); (try clear hgp); (try clear hbox); (try clear hge); (try clear hna_); (try clear hnb_))) | (refine wp_region_quiet_lit (by kernel_rfl) (by kernel_rfl) ?_; (repeat (any_goals (first | go_big_quiet_step (first | (go_at_call 66; (with_reducible refine (impl_two.calls k a0_0 a0_1 _ _ l0_2 a1_0 a1_1 a2 a2 t952 t955 false _ ?side1 ?side2 A5.out).mono ?_); (case side1 => exact zam7); (case side2 => exact HC0_2.out); rintro e w87 ⟨v953, v956, pv959, rfl, hgp, ho0, ho1, hb⟩; obtain rfl := hgp.2 rfl; have n0_ := Aside0.mk (Kd.R_lower ho0 (below_size zam1)); have n1_ := Aside0.mk (Kd.S_lower ho1 (below_size zam1)); have n2_ := Aside0.mk (blk_below (g := gb950) (o := .cells #[.int .i64 a0_0, .int .i64 a0_1, .slice A0_2 l0_2.length c0_2] 30 (0, 0)) zam3 hb); have n3_ := Aside0.mk (blk_below (g := gb951) (o := .cells #[.int .i64 a1_0, .int .i64 a1_1] 32 (0, 0)) zam4 hb); have n4_ := Aside0.mk (below_step zam1 hb); clear BK950; clear BK951; clear HB; have HO954 := n0_; have HO957 := n1_; have BK950 := n2_; have BK951 := n3_; have HB := n4_; clear n0_ n1_ n2_ n3_ n4_; (try clear hb); (try clear hb2); (try clear hk); (try clear hi); (try clear ho0); (try clear ho1); (try clear hgp); (try clear hbox); (try clear hge); (try clear hna_); (try clear hnb_))) | quiet_step (first | (go_at_call 66; (with_reducible refine (impl_two.calls k a0_0 a0_1 _ _ l0_2 a1_0 a1_1 a2 a2 t952 t955 false _ ?side1 ?side2 A5.out).mono ?_); (case side1 => exact zam7); (case side2 => exact HC0_2.out); rintro e w87 ⟨v953, v956, pv959, rfl, hgp, ho0, ho1, hb⟩; obtain rfl := hgp.2 rfl; have n0_ := Aside0.mk (Kd.R_lower ho0 (below_size zam1)); have n1_ := Aside0.mk (Kd.S_lower ho1 (below_size zam1)); have n2_ := Aside0.mk (blk_below (g := gb950) (o := .cells #[.int .i64 a0_0, .int .i64 a0_1, .slice A0_2 l0_2.length c0_2] 30 (0, 0)) zam3 hb); have n3_ := Aside0.mk (blk_below (g := gb951) (o := .cells #[.int .i64 a1_0, .int .i64 a1_1] 32 (0, 0)) zam4 hb); have n4_ := Aside0.mk (below_step zam1 hb); clear BK950; clear BK951; clear HB; have HO954 := n0_; have HO957 := n1_; have BK950 := n2_; have BK951 := n3_; have HB := n4_; clear n0_ n1_ n2_ n3_ n4_; (try clear hb); (try clear hb2); (try clear hk); (try clear hi); (try clear ho0); (try clear ho1); (try clear hgp); (try clear hbox); (try clear hge); (try clear hna_); (try clear hnb_)))))); all_goals (refine wpQuiet_nil ?_; intro _ hw2_; obtain ⟨nq, hw3_⟩ := hw2_; subst hw3_))); try go_wp2_with (first | ((with_reducible refine gate_dst (N := 4) rfl ?_); (try (refine gate_guard (by rfl) ?_; dsimp only)); refine box_event ?hg (N := 4) ?hd (cs := #[.int .i64 a0_0, .int .i64 a0_1, .slice A0_2 l0_2.length c0_2]) (t := 30) ?hr ?_; (case hd => rfl); (case hg => rfl); (case hr => first | (go_simp; done) | (go_simp; rfl)); intro gb950 hg w82 hbox hb; have n0_ := Aside0.mk (below_step zam10 hb); have n1_ := Aside0.mk (hbox); have n2_ := Aside0.mk ((zam38 : w.heap.size ≤ gb950)); have n3_ := Aside0.mk ((zam38 : w.heap.size ≤ gb950)); clear HB; have HB := n0_; have BK950 := n1_; have GW950 := n2_; have GE950 := n3_; clear n0_ n1_ n2_ n3_; clear hb hbox hg) | ((with_reducible refine gate_dst (N := 5) rfl ?_); (try (refine gate_guard (by rfl) ?_; dsimp only)); refine box_event ?hg (N := 5) ?hd (cs := #[.int .i64 a1_0, .int .i64 a1_1]) (t := 32) ?hr ?_; (case hd => rfl); (case hg => rfl); (case hr => first | (go_simp; done) | (go_simp; rfl)); intro gb951 hg w83 hbox hb; have n0_ := Aside0.mk (blk_below (g := gb950) (o := .cells #[.int .i64 a0_0, .int .i64 a0_1, .slice A0_2 l0_2.length c0_2] 30 (0, 0)) zam3 hb); have n1_ := Aside0.mk (below_step zam8 hb); have n2_ := Aside0.mk (hbox); have n3_ := Aside0.mk ((zam39 : w.heap.size ≤ gb951)); have n4_ := Aside0.mk ((zam39 : w.heap.size ≤ gb951)); have n5_ := Aside0.mk ((zam33 : gb950 ≠ gb951)); have n6_ := Aside0.mk ((zam34 : gb951 ≠ gb950)); clear BK950; clear HB; have BK950 := n0_; have HB := n1_; have BK951 := n2_; have GW951 := n3_; have GE951 := n4_; have NB950_951 := n5_; have NB951_950 := n6_; clear n0_ n1_ n2_ n3_ n4_ n5_ n6_; clear hb hbox hg; have hnb84 := NB950_951.out; have hnc84 := NB951_950.out; have hcz85_0 : w83.cell? ⟨gb950, 0, none⟩ = some (.int .i64 a0_0) := (blk_cell BK950.out 0).trans rfl; have hcz85_1 : w83.cell? ⟨gb950, 1, none⟩ = some (.int .i64 a0_1) := (blk_cell BK950.out 1).trans rfl; have hcz85_2 : w83.cell? ⟨gb950, 2, none⟩ = some (.slice A0_2 l0_2.length c0_2) := (blk_cell BK950.out 2).trans rfl; have hfz85_0 := blk_frozen BK950.out 0; have hfz85_1 := blk_frozen BK950.out 1; have hfz85_2 := blk_frozen BK950.out 2; have hcz86_0 : w83.cell? ⟨gb951, 0, none⟩ = some (.int .i64 a1_0) := (blk_cell BK951.out 0).trans rfl; have hcz86_1 : w83.cell? ⟨gb951, 1, none⟩ = some (.int .i64 a1_1) := (blk_cell BK951.out 1).trans rfl; have hfz86_0 := blk_frozen BK951.out 0; have hfz86_1 := blk_frozen BK951.out 1) | (go_at_call 66; (with_reducible refine (impl_two.calls k a0_0 a0_1 _ _ l0_2 a1_0 a1_1 a2 a2 t952 t955 false _ ?side1 ?side2 A5.out).mono ?_); (case side1 => exact zam7); (case side2 => exact HC0_2.out); rintro e w87 ⟨v953, v956, pv959, rfl, hgp, ho0, ho1, hb⟩; obtain rfl := hgp.2 rfl; have n0_ := Aside0.mk (Kd.R_lower ho0 (below_size zam1)); have n1_ := Aside0.mk (Kd.S_lower ho1 (below_size zam1)); have n2_ := Aside0.mk (blk_below (g := gb950) (o := .cells #[.int .i64 a0_0, .int .i64 a0_1, .slice A0_2 l0_2.length c0_2] 30 (0, 0)) zam3 hb); have n3_ := Aside0.mk (blk_below (g := gb951) (o := .cells #[.int .i64 a1_0, .int .i64 a1_1] 32 (0, 0)) zam4 hb); have n4_ := Aside0.mk (below_step zam1 hb); clear BK950; clear BK951; clear HB; have HO954 := n0_; have HO957 := n1_; have BK950 := n2_; have BK951 := n3_; have HB := n4_; clear n0_ n1_ n2_ n3_ n4_; (try clear hb); (try clear hb2); (try clear hk); (try clear hi); (try clear ho0); (try clear ho1); (try clear hgp); (try clear hbox); (try clear hge); (try clear hna_); (try clear hnb_))))
  go_ret2
  exact ⟨_, zam30, zam20, zam1⟩
 subst c6
 have H1 : (if (l3.length : Int) ≥ 64 then (some (([] : List Int), false)) else ((impl_Leaper_steps.f k a1_0 a1_1).bind fun t961 => (impl_WalkOfSteps.l0 k t961 (([a2] : List Int)) l3 (l3.length : Int) 0 a0_0 a0_1 l0_2 a0_0 a0_1 l0_2 a1_0 a1_1 t952 t955))) = some (r1, r2) := by rw [if_pos rfl] at H; exact H
 clear H
 have H := H1
 clear H1
 by_cases c7 : (l3.length : Int) ≥ 64
 ·rw [if_pos c7] at H
  have c7b0 : decide (64 ≤ (l3.length : Int)) = true := decide_eq_true c7
  have c7b1 : decide (64 ≤ l3.length) = true := decide_eq_true (by omega)
  clear c7
  simp only [Option.some.injEq, Prod.mk.injEq] at H
  obtain ⟨rfl, rfl⟩ := H
  go_enter Try.func32, Try.ntmps32
  go_wp2_with (first | ((with_reducible refine gate_dst (N := 4) rfl ?_); (try (refine gate_guard (by rfl) ?_; dsimp only)); refine box_event ?hg (N := 4) ?hd (cs := #[.int .i64 a0_0, .int .i64 a0_1, .slice A0_2 l0_2.length c0_2]) (t := 30) ?hr ?_; (case hd => rfl); (case hg => rfl); (case hr => first | (go_simp; done) | (go_simp; rfl)); intro gb950 hg w8 hbox hb; have n0_ := Aside0.mk (below_step zam10 hb); have n1_ := Aside0.mk (hbox); have n2_ := Aside0.mk ((zam38 : w.heap.size ≤ gb950)); have n3_ := Aside0.mk ((zam38 : w.heap.size ≤ gb950)); clear HB; have HB := n0_; have BK950 := n1_; have GW950 := n2_; have GE950 := n3_; clear n0_ n1_ n2_ n3_; clear hb hbox hg) | ((with_reducible refine gate_dst (N := 5) rfl ?_); (try (refine gate_guard (by rfl) ?_; dsimp only)); refine box_event ?hg (N := 5) ?hd (cs := #[.int .i64 a1_0, .int .i64 a1_1]) (t := 32) ?hr ?_; (case hd => rfl); (case hg => rfl); (case hr => first | (go_simp; done) | (go_simp; rfl)); intro gb951 hg w9 hbox hb; have n0_ := Aside0.mk (blk_below (g := gb950) (o := .cells #[.int .i64 a0_0, .int .i64 a0_1, .slice A0_2 l0_2.length c0_2] 30 (0, 0)) zam3 hb); have n1_ := Aside0.mk (below_step zam8 hb); have n2_ := Aside0.mk (hbox); have n3_ := Aside0.mk ((zam39 : w.heap.size ≤ gb951)); have n4_ := Aside0.mk ((zam39 : w.heap.size ≤ gb951)); have n5_ := Aside0.mk ((zam33 : gb950 ≠ gb951)); have n6_ := Aside0.mk ((zam34 : gb951 ≠ gb950)); clear BK950; clear HB; have BK950 := n0_; have HB := n1_; have BK951 := n2_; have GW951 := n3_; have GE951 := n4_; have NB950_951 := n5_; have NB951_950 := n6_; clear n0_ n1_ n2_ n3_ n4_ n5_ n6_; clear hb hbox hg; have hnb10 := NB950_951.out; have hnc10 := NB951_950.out; have hcz11_0 : w9.cell? ⟨gb950, 0, none⟩ = some (.int .i64 a0_0) := (blk_cell BK950.out 0).trans rfl; have hcz11_1 : w9.cell? ⟨gb950, 1, none⟩ = some (.int .i64 a0_1) := (blk_cell BK950.out 1).trans rfl; have hcz11_2 : w9.cell? ⟨gb950, 2, none⟩ = some (.slice A0_2 l0_2.length c0_2) := (blk_cell BK950.out 2).trans rfl; have hfz11_0 := blk_frozen BK950.out 0; have hfz11_1 := blk_frozen BK950.out 1; have hfz11_2 := blk_frozen BK950.out 2; have hcz12_0 : w9.cell? ⟨gb951, 0, none⟩ = some (.int .i64 a1_0) := (blk_cell BK951.out 0).trans rfl; have hcz12_1 : w9.cell? ⟨gb951, 1, none⟩ = some (.int .i64 a1_1) := (blk_cell BK951.out 1).trans rfl; have hfz12_0 := blk_frozen BK951.out 0; have hfz12_1 := blk_frozen BK951.out 1) | (go_at_call 66; (with_reducible refine (impl_two.calls k a0_0 a0_1 _ _ l0_2 a1_0 a1_1 a2 a2 t952 t955 true _ ?side1 ?side2 A5.out).mono ?_); (case side1 => exact zam7); (case side2 => exact HC0_2.out); rintro e w13 ⟨v953, v956, pv959, rfl, hgp, ho0, ho1, hb⟩; obtain ⟨gb958, rfl, hbox, hge⟩ := hgp.1 rfl; have n0_ := Aside0.mk (Kd.R_lower ho0 (below_size zam1)); have n1_ := Aside0.mk (Kd.S_lower ho1 (below_size zam1)); have n2_ := Aside0.mk (blk_below (g := gb950) (o := .cells #[.int .i64 a0_0, .int .i64 a0_1, .slice A0_2 l0_2.length c0_2] 30 (0, 0)) zam3 hb); have n3_ := Aside0.mk (blk_below (g := gb951) (o := .cells #[.int .i64 a1_0, .int .i64 a1_1] 32 (0, 0)) zam4 hb); have n4_ := Aside0.mk (hbox); have n5_ := Aside0.mk ((Nat.le_trans zam35 hge : w.heap.size ≤ gb958)); have n6_ := Aside0.mk ((Nat.le_trans zam35 hge : w.heap.size ≤ gb958)); have n7_ := Aside0.mk ((Nat.ne_of_lt (Nat.lt_of_lt_of_le (blk_lt (g := gb950) (o := .cells #[.int .i64 a0_0, .int .i64 a0_1, .slice A0_2 l0_2.length c0_2] 30 (0, 0)) zam3) hge) : gb950 ≠ gb958)); have n8_ := Aside0.mk ((Nat.ne_of_gt (Nat.lt_of_lt_of_le (blk_lt (g := gb950) (o := .cells #[.int .i64 a0_0, .int .i64 a0_1, .slice A0_2 l0_2.length c0_2] 30 (0, 0)) zam3) hge) : gb958 ≠ gb950)); have n9_ := Aside0.mk ((Nat.ne_of_lt (Nat.lt_of_lt_of_le (blk_lt (g := gb951) (o := .cells #[.int .i64 a1_0, .int .i64 a1_1] 32 (0, 0)) zam4) hge) : gb951 ≠ gb958)); have n10_ := Aside0.mk ((Nat.ne_of_gt (Nat.lt_of_lt_of_le (blk_lt (g := gb951) (o := .cells #[.int .i64 a1_0, .int .i64 a1_1] 32 (0, 0)) zam4) hge) : gb958 ≠ gb951)); have n11_ := Aside0.mk (below_step zam1 hb); clear BK950; clear BK951; clear HB; have HO954 := n0_; have HO957 := n1_; have BK950 := n2_; have BK951 := n3_; have BK958 := n4_; have GW958 := n5_; have GE958 := n6_; have NB950_958 := n7_; have NB958_950 := n8_; have NB951_958 := n9_; have NB958_951 := n10_; have HB := n11_; clear n0_ n1_ n2_ n3_ n4_ n5_ n6_ n7_ n8_ n9_ n10_ n11_; (try clear hb); (try clear hb2); (try clear hk); (try clear hi); (try clear ho0); (try clear ho1); (try clear hgp); (try clear hbox); (try clear hge); (try clear hna_); (try clear hnb_)))
  repeat ((first | go_quiet (first | (go_at_call 66; (with_reducible refine (impl_two.calls k a0_0 a0_1 _ _ l0_2 a1_0 a1_1 a2 a2 t952 t955 true _ ?side1 ?side2 A5.out).mono ?_); (case side1 => exact zam7); (case side2 => exact HC0_2.out); rintro e w13 ⟨v953, v956, pv959, rfl, hgp, ho0, ho1, hb⟩; obtain ⟨gb958, rfl, hbox, hge⟩ := hgp.1 rfl; have n0_ := Aside0.mk (Kd.R_lower ho0 (below_size zam1)); have n1_ := Aside0.mk (Kd.S_lower ho1 (below_size zam1)); have n2_ := Aside0.mk (blk_below (g := gb950) (o := .cells #[.int .i64 a0_0, .int .i64 a0_1, .slice A0_2 l0_2.length c0_2] 30 (0, 0)) zam3 hb); have n3_ := Aside0.mk (blk_below (g := gb951) (o := .cells #[.int .i64 a1_0, .int .i64 a1_1] 32 (0, 0)) zam4 hb); have n4_ := Aside0.mk (hbox); have n5_ := Aside0.mk ((Nat.le_trans zam35 hge : w.heap.size ≤ gb958)); have n6_ := Aside0.mk ((Nat.le_trans zam35 hge : w.heap.size ≤ gb958)); have n7_ := Aside0.mk ((Nat.ne_of_lt (Nat.lt_of_lt_of_le (blk_lt (g := gb950) (o := .cells #[.int .i64 a0_0, .int .i64 a0_1, .slice A0_2 l0_2.length c0_2] 30 (0, 0)) zam3) hge) : gb950 ≠ gb958)); have n8_ := Aside0.mk ((Nat.ne_of_gt (Nat.lt_of_lt_of_le (blk_lt (g := gb950) (o := .cells #[.int .i64 a0_0, .int .i64 a0_1, .slice A0_2 l0_2.length c0_2] 30 (0, 0)) zam3) hge) : gb958 ≠ gb950)); have n9_ := Aside0.mk ((Nat.ne_of_lt (Nat.lt_of_lt_of_le (blk_lt (g := gb951) (o := .cells #[.int .i64 a1_0, .int .i64 a1_1] 32 (0, 0)) zam4) hge) : gb951 ≠ gb958)); have n10_ := Aside0.mk ((Nat.ne_of_gt (Nat.lt_of_lt_of_le (blk_lt (g := gb951) (o := .cells #[.int .i64 a1_0, .int .i64 a1_1] 32 (0, 0)) zam4) hge) : gb958 ≠ gb951)); have n11_ := Aside0.mk (below_step zam1 hb); clear BK950; clear BK951; clear HB; have HO954 := n0_; have HO957 := n1_; have BK950 := n2_; have BK951 := n3_; have BK958 := n4_; have GW958 := n5_; have GE958 := n6_; have NB950_958 := n7_; have NB958_950 := n8_; have NB951_958 := n9_; have NB958_951 := n10_; have HB := n11_; clear n0_ n1_ n2_ n3_ n4_ n5_ n6_ n7_ n8_ n9_ n10_ n11_; (try clear hb); (try clear hb2); (try clear hk); (try clear hi); (try clear ho0); (try clear ho1); (try clear hgp); (try clear hbox); (try clear hge); (try clear hna_); (try clear hnb_))) | (refine wp_region_quiet_lit (by kernel_rfl) (by kernel_rfl) ?_; (repeat (any_goals (first | go_big_quiet_step (first | (go_at_call 66; (with_reducible refine (impl_two.calls k a0_0 a0_1 _ _ l0_2 a1_0 a1_1 a2 a2 t952 t955 true _ ?side1 ?side2 A5.out).mono ?_); (case side1 => exact zam7); (case side2 => exact HC0_2.out); rintro e w13 ⟨v953, v956, pv959, rfl, hgp, ho0, ho1, hb⟩; obtain ⟨gb958, rfl, hbox, hge⟩ := hgp.1 rfl; have n0_ := Aside0.mk (Kd.R_lower ho0 (below_size zam1)); have n1_ := Aside0.mk (Kd.S_lower ho1 (below_size zam1)); have n2_ := Aside0.mk (blk_below (g := gb950) (o := .cells #[.int .i64 a0_0, .int .i64 a0_1, .slice A0_2 l0_2.length c0_2] 30 (0, 0)) zam3 hb); have n3_ := Aside0.mk (blk_below (g := gb951) (o := .cells #[.int .i64 a1_0, .int .i64 a1_1] 32 (0, 0)) zam4 hb); have n4_ := Aside0.mk (hbox); have n5_ := Aside0.mk ((Nat.le_trans zam35 hge : w.heap.size ≤ gb958)); have n6_ := Aside0.mk ((Nat.le_trans zam35 hge : w.heap.size ≤ gb958)); have n7_ := Aside0.mk ((Nat.ne_of_lt (Nat.lt_of_lt_of_le (blk_lt (g := gb950) (o := .cells #[.int .i64 a0_0, .int .i64 a0_1, .slice A0_2 l0_2.length c0_2] 30 (0, 0)) zam3) hge) : gb950 ≠ gb958)); have n8_ := Aside0.mk ((Nat.ne_of_gt (Nat.lt_of_lt_of_le (blk_lt (g := gb950) (o := .cells #[.int .i64 a0_0, .int .i64 a0_1, .slice A0_2 l0_2.length c0_2] 30 (0, 0)) zam3) hge) : gb958 ≠ gb950)); have n9_ := Aside0.mk ((Nat.ne_of_lt (Nat.lt_of_lt_of_le (blk_lt (g := gb951) (o := .cells #[.int .i64 a1_0, .int .i64 a1_1] 32 (0, 0)) zam4) hge) : gb951 ≠ gb958)); have n10_ := Aside0.mk ((Nat.ne_of_gt (Nat.lt_of_lt_of_le (blk_lt (g := gb951) (o := .cells #[.int .i64 a1_0, .int .i64 a1_1] 32 (0, 0)) zam4) hge) : gb958 ≠ gb951)); have n11_ := Aside0.mk (below_step zam1 hb); clear BK950; clear BK951; clear HB; have HO954 := n0_; have HO957 := n1_; have BK950 := n2_; have BK951 := n3_; have BK958 := n4_; have GW958 := n5_; have GE958 := n6_; have NB950_958 := n7_; have NB958_950 := n8_; have NB951_958 := n9_; have NB958_951 := n10_; have HB := n11_; clear n0_ n1_ n2_ n3_ n4_ n5_ n6_ n7_ n8_ n9_ n10_ n11_; (try clear hb); (try clear hb2); (try clear hk); (try clear hi); (try clear ho0); (try clear ho1); (try clear hgp); (try clear hbox); (try clear hge); (try clear hna_); (try clear hnb_))) | quiet_step (first | (go_at_call 66; (with_reducible refine (impl_two.calls k a0_0 a0_1 _ _ l0_2 a1_0 a1_1 a2 a2 t952 t955 true _ ?side1 ?side2 A5.out).mono ?_); (case side1 => exact zam7); (case side2 => exact HC0_2.out); rintro e w13 ⟨v953, v956, pv959, rfl, hgp, ho0, ho1, hb⟩; obtain ⟨gb958, rfl, hbox, hge⟩ := hgp.1 rfl; have n0_ := Aside0.mk (Kd.R_lower ho0 (below_size zam1)); have n1_ := Aside0.mk (Kd.S_lower ho1 (below_size zam1)); have n2_ := Aside0.mk (blk_below (g := gb950) (o := .cells #[.int .i64 a0_0, .int .i64 a0_1, .slice A0_2 l0_2.length c0_2] 30 (0, 0)) zam3 hb); have n3_ := Aside0.mk (blk_below (g := gb951) (o := .cells #[.int .i64 a1_0, .int .i64 a1_1] 32 (0, 0)) zam4 hb); have n4_ := Aside0.mk (hbox); have n5_ := Aside0.mk ((Nat.le_trans zam35 hge : w.heap.size ≤ gb958)); have n6_ := Aside0.mk ((Nat.le_trans zam35 hge : w.heap.size ≤ gb958)); have n7_ := Aside0.mk ((Nat.ne_of_lt (Nat.lt_of_lt_of_le (blk_lt (g := gb950) (o := .cells #[.int .i64 a0_0, .int .i64 a0_1, .slice A0_2 l0_2.length c0_2] 30 (0, 0)) zam3) hge) : gb950 ≠ gb958)); have n8_ := Aside0.mk ((Nat.ne_of_gt (Nat.lt_of_lt_of_le (blk_lt (g := gb950) (o := .cells #[.int .i64 a0_0, .int .i64 a0_1, .slice A0_2 l0_2.length c0_2] 30 (0, 0)) zam3) hge) : gb958 ≠ gb950)); have n9_ := Aside0.mk ((Nat.ne_of_lt (Nat.lt_of_lt_of_le (blk_lt (g := gb951) (o := .cells #[.int .i64 a1_0, .int .i64 a1_1] 32 (0, 0)) zam4) hge) : gb951 ≠ gb958)); have n10_ := Aside0.mk ((Nat.ne_of_gt (Nat.lt_of_lt_of_le (blk_lt (g := gb951) (o := .cells #[.int .i64 a1_0, .int .i64 a1_1] 32 (0, 0)) zam4) hge) : gb958 ≠ gb951)); have n11_ := Aside0.mk (below_step zam1 hb); clear BK950; clear BK951; clear HB; have HO954 := n0_; have HO957 := n1_; have BK950 := n2_; have BK951 := n3_; have BK958 := n4_; have GW958 := n5_; have GE958 := n6_; have NB950_958 := n7_; have NB958_950 := n8_; have NB951_958 := n9_; have NB958_951 := n10_; have HB := n11_; clear n0_ n1_ n2_ n3_ n4_ n5_ n6_ n7_ n8_ n9_ n10_ n11_; (try clear hb); (try clear hb2); (try clear hk); (try clear hi); (try clear ho0); (try clear ho1); (try clear hgp); (try clear hbox); (try clear hge); (try clear hna_); (try clear hnb_)))))); all_goals (refine wpQuiet_nil ?_; intro _ hw2_; obtain ⟨nq, hw3_⟩ := hw2_; subst hw3_))); try go_wp2_with (first | ((with_reducible refine gate_dst (N := 4) rfl ?_); (try (refine gate_guard (by rfl) ?_; dsimp only)); refine box_event ?hg (N := 4) ?hd (cs := #[.int .i64 a0_0, .int .i64 a0_1, .slice A0_2 l0_2.length c0_2]) (t := 30) ?hr ?_; (case hd => rfl); (case hg => rfl); (case hr => first | (go_simp; done) | (go_simp; rfl)); intro gb950 hg w8 hbox hb; have n0_ := Aside0.mk (below_step zam10 hb); have n1_ := Aside0.mk (hbox); have n2_ := Aside0.mk ((zam38 : w.heap.size ≤ gb950)); have n3_ := Aside0.mk ((zam38 : w.heap.size ≤ gb950)); clear HB; have HB := n0_; have BK950 := n1_; have GW950 := n2_; have GE950 := n3_; clear n0_ n1_ n2_ n3_; clear hb hbox hg) | ((with_reducible refine gate_dst (N := 5) rfl ?_); (try (refine gate_guard (by rfl) ?_; dsimp only)); refine box_event ?hg (N := 5) ?hd (cs := #[.int .i64 a1_0, .int .i64 a1_1]) (t := 32) ?hr ?_; (case hd => rfl); (case hg => rfl); (case hr => first | (go_simp; done) | (go_simp; rfl)); intro gb951 hg w9 hbox hb; have n0_ := Aside0.mk (blk_below (g := gb950) (o := .cells #[.int .i64 a0_0, .int .i64 a0_1, .slice A0_2 l0_2.length c0_2] 30 (0, 0)) zam3 hb); have n1_ := Aside0.mk (below_step zam8 hb); have n2_ := Aside0.mk (hbox); have n3_ := Aside0.mk ((zam39 : w.heap.size ≤ gb951)); have n4_ := Aside0.mk ((zam39 : w.heap.size ≤ gb951)); have n5_ := Aside0.mk ((zam33 : gb950 ≠ gb951)); have n6_ := Aside0.mk ((zam34 : gb951 ≠ gb950)); clear BK950; clear HB; have BK950 := n0_; have HB := n1_; have BK951 := n2_; have GW951 := n3_; have GE951 := n4_; have NB950_951 := n5_; have NB951_950 := n6_; clear n0_ n1_ n2_ n3_ n4_ n5_ n6_; clear hb hbox hg; have hnb10 := NB950_951.out; have hnc10 := NB951_950.out; have hcz11_0 : w9.cell? ⟨gb950, 0, none⟩ = some (.int .i64 a0_0) := (blk_cell BK950.out 0).trans rfl; have hcz11_1 : w9.cell? ⟨gb950, 1, none⟩ = some (.int .i64 a0_1) := (blk_cell BK950.out 1).trans rfl; have hcz11_2 : w9.cell? ⟨gb950, 2, none⟩ = some (.slice A0_2 l0_2.length c0_2) := (blk_cell BK950.out 2).trans rfl; have hfz11_0 := blk_frozen BK950.out 0; have hfz11_1 := blk_frozen BK950.out 1; have hfz11_2 := blk_frozen BK950.out 2; have hcz12_0 : w9.cell? ⟨gb951, 0, none⟩ = some (.int .i64 a1_0) := (blk_cell BK951.out 0).trans rfl; have hcz12_1 : w9.cell? ⟨gb951, 1, none⟩ = some (.int .i64 a1_1) := (blk_cell BK951.out 1).trans rfl; have hfz12_0 := blk_frozen BK951.out 0; have hfz12_1 := blk_frozen BK951.out 1) | (go_at_call 66; (with_reducible refine (impl_two.calls k a0_0 a0_1 _ _ l0_2 a1_0 a1_1 a2 a2 t952 t955 true _ ?side1 ?side2 A5.out).mono ?_); (case side1 => exact zam7); (case side2 => exact HC0_2.out); rintro e w13 ⟨v953, v956, pv959, rfl, hgp, ho0, ho1, hb⟩; obtain ⟨gb958, rfl, hbox, hge⟩ := hgp.1 rfl; have n0_ := Aside0.mk (Kd.R_lower ho0 (below_size zam1)); have n1_ := Aside0.mk (Kd.S_lower ho1 (below_size zam1)); have n2_ := Aside0.mk (blk_below (g := gb950) (o := .cells #[.int .i64 a0_0, .int .i64 a0_1, .slice A0_2 l0_2.length c0_2] 30 (0, 0)) zam3 hb); have n3_ := Aside0.mk (blk_below (g := gb951) (o := .cells #[.int .i64 a1_0, .int .i64 a1_1] 32 (0, 0)) zam4 hb); have n4_ := Aside0.mk (hbox); have n5_ := Aside0.mk ((Nat.le_trans zam35 hge : w.heap.size ≤ gb958)); have n6_ := Aside0.mk ((Nat.le_trans zam35 hge : w.heap.size ≤ gb958)); have n7_ := Aside0.mk ((Nat.ne_of_lt (Nat.lt_of_lt_of_le (blk_lt (g := gb950) (o := .cells #[.int .i64 a0_0, .int .i64 a0_1, .slice A0_2 l0_2.length c0_2] 30 (0, 0)) zam3) hge) : gb950 ≠ gb958)); have n8_ := Aside0.mk ((Nat.ne_of_gt (Nat.lt_of_lt_of_le (blk_lt (g := gb950) (o := .cells #[.int .i64 a0_0, .int .i64 a0_1, .slice A0_2 l0_2.length c0_2] 30 (0, 0)) zam3) hge) : gb958 ≠ gb950)); have n9_ := Aside0.mk ((Nat.ne_of_lt (Nat.lt_of_lt_of_le (blk_lt (g := gb951) (o := .cells #[.int .i64 a1_0, .int .i64 a1_1] 32 (0, 0)) zam4) hge) : gb951 ≠ gb958)); have n10_ := Aside0.mk ((Nat.ne_of_gt (Nat.lt_of_lt_of_le (blk_lt (g := gb951) (o := .cells #[.int .i64 a1_0, .int .i64 a1_1] 32 (0, 0)) zam4) hge) : gb958 ≠ gb951)); have n11_ := Aside0.mk (below_step zam1 hb); clear BK950; clear BK951; clear HB; have HO954 := n0_; have HO957 := n1_; have BK950 := n2_; have BK951 := n3_; have BK958 := n4_; have GW958 := n5_; have GE958 := n6_; have NB950_958 := n7_; have NB958_950 := n8_; have NB951_958 := n9_; have NB958_951 := n10_; have HB := n11_; clear n0_ n1_ n2_ n3_ n4_ n5_ n6_ n7_ n8_ n9_ n10_ n11_; (try clear hb); (try clear hb2); (try clear hk); (try clear hi); (try clear ho0); (try clear ho1); (try clear hgp); (try clear hbox); (try clear hge); (try clear hna_); (try clear hnb_))))
  go_ret2
  exact ⟨_, zam30, zam20, zam2⟩
 rw [if_neg c7] at H
 have c7b0 : decide (64 ≤ (l3.length : Int)) = false := decide_eq_false c7
 have c7b1 : decide (64 ≤ l3.length) = false := decide_eq_false (by omega)
 clear c7
 replace H := Option.bind_eq_some_iff.mp H
 obtain ⟨t961, A140, H⟩ := H
 replace H : (impl_WalkOfSteps.l0 k t961 (([a2] : List Int)) l3 (l3.length : Int) 0 a0_0 a0_1 l0_2 a0_0 a0_1 l0_2 a1_0 a1_1 t952 t955) = some (r1, r2) := H
 have A14 := Aside0.mk A140
 clear A140
 obtain ⟨y964, hy964⟩ : ∃ y_ : List Int, y_ = (([a2] : List Int)) := ⟨_, rfl⟩
 replace H : (impl_WalkOfSteps.l0 k t961 y964 l3 (l3.length : Int) 0 a0_0 a0_1 l0_2 a0_0 a0_1 l0_2 a1_0 a1_1 t952 t955) = some (r1, r2) := by first | (rw [hy964]; with_reducible exact H) | (have H2_ := (Option.bind_some _ _).symm.trans H; rw [hy964]; with_reducible exact H2_) | (have H2_ := (Option.bind_some _ _).symm.trans H; with_reducible exact H2_) | with_reducible exact H | (rw [hy964]; exact H) | exact H
 have Ny964 := Aside0.mk hy964
 clear hy964
 have H' := Aside0.mk H
 clear H
 go_enter Try.func32, Try.ntmps32
 go_wp2_with (first | ((with_reducible refine gate_dst (N := 4) rfl ?_); (try (refine gate_guard (by rfl) ?_; dsimp only)); refine box_event ?hg (N := 4) ?hd (cs := #[.int .i64 a0_0, .int .i64 a0_1, .slice A0_2 l0_2.length c0_2]) (t := 30) ?hr ?_; (case hd => rfl); (case hg => rfl); (case hr => first | (go_simp; done) | (go_simp; rfl)); intro gb950 hg w15 hbox hb; have n0_ := Aside0.mk (below_step zam10 hb); have n1_ := Aside0.mk (hbox); have n2_ := Aside0.mk ((zam38 : w.heap.size ≤ gb950)); have n3_ := Aside0.mk ((zam38 : w.heap.size ≤ gb950)); clear HB; have HB := n0_; have BK950 := n1_; have GW950 := n2_; have GE950 := n3_; clear n0_ n1_ n2_ n3_; clear hb hbox hg) | ((with_reducible refine gate_dst (N := 5) rfl ?_); (try (refine gate_guard (by rfl) ?_; dsimp only)); refine box_event ?hg (N := 5) ?hd (cs := #[.int .i64 a1_0, .int .i64 a1_1]) (t := 32) ?hr ?_; (case hd => rfl); (case hg => rfl); (case hr => first | (go_simp; done) | (go_simp; rfl)); intro gb951 hg w16 hbox hb; have n0_ := Aside0.mk (blk_below (g := gb950) (o := .cells #[.int .i64 a0_0, .int .i64 a0_1, .slice A0_2 l0_2.length c0_2] 30 (0, 0)) zam3 hb); have n1_ := Aside0.mk (below_step zam8 hb); have n2_ := Aside0.mk (hbox); have n3_ := Aside0.mk ((zam39 : w.heap.size ≤ gb951)); have n4_ := Aside0.mk ((zam39 : w.heap.size ≤ gb951)); have n5_ := Aside0.mk ((zam33 : gb950 ≠ gb951)); have n6_ := Aside0.mk ((zam34 : gb951 ≠ gb950)); clear BK950; clear HB; have BK950 := n0_; have HB := n1_; have BK951 := n2_; have GW951 := n3_; have GE951 := n4_; have NB950_951 := n5_; have NB951_950 := n6_; clear n0_ n1_ n2_ n3_ n4_ n5_ n6_; clear hb hbox hg; have hnb17 := NB950_951.out; have hnc17 := NB951_950.out; have hcz18_0 : w16.cell? ⟨gb950, 0, none⟩ = some (.int .i64 a0_0) := (blk_cell BK950.out 0).trans rfl; have hcz18_1 : w16.cell? ⟨gb950, 1, none⟩ = some (.int .i64 a0_1) := (blk_cell BK950.out 1).trans rfl; have hcz18_2 : w16.cell? ⟨gb950, 2, none⟩ = some (.slice A0_2 l0_2.length c0_2) := (blk_cell BK950.out 2).trans rfl; have hfz18_0 := blk_frozen BK950.out 0; have hfz18_1 := blk_frozen BK950.out 1; have hfz18_2 := blk_frozen BK950.out 2; have hcz19_0 : w16.cell? ⟨gb951, 0, none⟩ = some (.int .i64 a1_0) := (blk_cell BK951.out 0).trans rfl; have hcz19_1 : w16.cell? ⟨gb951, 1, none⟩ = some (.int .i64 a1_1) := (blk_cell BK951.out 1).trans rfl; have hfz19_0 := blk_frozen BK951.out 0; have hfz19_1 := blk_frozen BK951.out 1) | (go_at_call 66; (with_reducible refine (impl_two.calls k a0_0 a0_1 _ _ l0_2 a1_0 a1_1 a2 a2 t952 t955 true _ ?side1 ?side2 A5.out).mono ?_); (case side1 => exact zam7); (case side2 => exact HC0_2.out); rintro e w20 ⟨v953, v956, pv959, rfl, hgp, ho0, ho1, hb⟩; obtain ⟨gb958, rfl, hbox, hge⟩ := hgp.1 rfl; have n0_ := Aside0.mk (Kd.R_lower ho0 (below_size zam1)); have n1_ := Aside0.mk (Kd.S_lower ho1 (below_size zam1)); have n2_ := Aside0.mk (blk_below (g := gb950) (o := .cells #[.int .i64 a0_0, .int .i64 a0_1, .slice A0_2 l0_2.length c0_2] 30 (0, 0)) zam3 hb); have n3_ := Aside0.mk (blk_below (g := gb951) (o := .cells #[.int .i64 a1_0, .int .i64 a1_1] 32 (0, 0)) zam4 hb); have n4_ := Aside0.mk (hbox); have n5_ := Aside0.mk ((Nat.le_trans zam35 hge : w.heap.size ≤ gb958)); have n6_ := Aside0.mk ((Nat.le_trans zam35 hge : w.heap.size ≤ gb958)); have n7_ := Aside0.mk ((Nat.ne_of_lt (Nat.lt_of_lt_of_le (blk_lt (g := gb950) (o := .cells #[.int .i64 a0_0, .int .i64 a0_1, .slice A0_2 l0_2.length c0_2] 30 (0, 0)) zam3) hge) : gb950 ≠ gb958)); have n8_ := Aside0.mk ((Nat.ne_of_gt (Nat.lt_of_lt_of_le (blk_lt (g := gb950) (o := .cells #[.int .i64 a0_0, .int .i64 a0_1, .slice A0_2 l0_2.length c0_2] 30 (0, 0)) zam3) hge) : gb958 ≠ gb950)); have n9_ := Aside0.mk ((Nat.ne_of_lt (Nat.lt_of_lt_of_le (blk_lt (g := gb951) (o := .cells #[.int .i64 a1_0, .int .i64 a1_1] 32 (0, 0)) zam4) hge) : gb951 ≠ gb958)); have n10_ := Aside0.mk ((Nat.ne_of_gt (Nat.lt_of_lt_of_le (blk_lt (g := gb951) (o := .cells #[.int .i64 a1_0, .int .i64 a1_1] 32 (0, 0)) zam4) hge) : gb958 ≠ gb951)); have n11_ := Aside0.mk (below_step zam1 hb); clear BK950; clear BK951; clear HB; have HO954 := n0_; have HO957 := n1_; have BK950 := n2_; have BK951 := n3_; have BK958 := n4_; have GW958 := n5_; have GE958 := n6_; have NB950_958 := n7_; have NB958_950 := n8_; have NB951_958 := n9_; have NB958_951 := n10_; have HB := n11_; clear n0_ n1_ n2_ n3_ n4_ n5_ n6_ n7_ n8_ n9_ n10_ n11_; (try clear hb); (try clear hb2); (try clear hk); (try clear hi); (try clear ho0); (try clear ho1); (try clear hgp); (try clear hbox); (try clear hge); (try clear hna_); (try clear hnb_); have hnb21 := NB951_958.out; have hnc21 := NB958_951.out; have hcz22_0 : w20.cell? ⟨gb951, 0, none⟩ = some (.int .i64 a1_0) := (blk_cell BK951.out 0).trans rfl; have hcz22_1 : w20.cell? ⟨gb951, 1, none⟩ = some (.int .i64 a1_1) := (blk_cell BK951.out 1).trans rfl; have hfz22_0 := blk_frozen BK951.out 0; have hfz22_1 := blk_frozen BK951.out 1) | (go_at_call 43; (with_reducible refine (impl_Leaper_steps.calls k a1_0 a1_1 t961 _ A14.out).mono ?_); rintro e w23 ⟨v962, rfl, ho0, hb⟩; obtain ⟨na979_, nb979_, hna_, hnb_⟩ := rng_of hb; replace ho0 := rng_new ho0 hna_ hnb_; have n0_ := Aside0.mk (Kd.R_below zam11 hb); have n1_ := Aside0.mk (Kd.S_elder' (Kd.S_mono (Kd.S_bound zam17) (fun k_ hk_ => (⟨hk_.1, rng_lt hna_ hk_.2.2.1⟩ : _ ∧ k_ ≠ (rngIn na979_ nb979_ k_)))) (Kd.S_base ho0) hb); have n2_ := Aside0.mk (Kd.S_lower (Kd.S_new' (Kd.S_new' ho0 (Kd.R_lt zam11)) (Kd.S_lt zam17)) (below_size zam2)); have n3_ := Aside0.mk (blk_below (g := gb950) (o := .cells #[.int .i64 a0_0, .int .i64 a0_1, .slice A0_2 l0_2.length c0_2] 30 (0, 0)) zam3 hb); have n4_ := Aside0.mk (blk_below (g := gb951) (o := .cells #[.int .i64 a1_0, .int .i64 a1_1] 32 (0, 0)) zam4 hb); have n5_ := Aside0.mk (blk_below (g := gb958) (o := .cells #[.int .i64 a0_0, .int .i64 a0_1, .slice A0_2 l0_2.length c0_2, .int .i64 a1_0, .int .i64 a1_1, v953, v956] 84 (0, 0)) zam6 hb); have n6_ := Aside0.mk ((Nat.le_of_eq hnb_.symm : nb979_ ≤ w23.heap.size)); have n7_ := Aside0.mk (below_step zam2 hb); clear HO954; clear HO957; clear BK950; clear BK951; clear BK958; clear HB; have HO954 := n0_; have HO957 := n1_; have HO963 := n2_; have BK950 := n3_; have BK951 := n4_; have BK958 := n5_; have HNB979 := n6_; have HB := n7_; clear n0_ n1_ n2_ n3_ n4_ n5_ n6_ n7_; (try clear hb); (try clear hb2); (try clear hk); (try clear hi); (try clear ho0); (try clear hna_); (try clear hnb_)) | ((with_reducible refine gate_dst (N := 37) rfl ?_); (try (refine gate_guard (by rfl) ?_; dsimp only)); refine Kd.R_lit (Kd.int .i64) _ 3 ?hg (N := 37) ?hd (xs := ([a2] : List Int)) (inner := [.int .i64 a2]) (ok := fun _ => True) (okp := fun _ => True) ?hr ?hp (fun _ hk => hk) trivial (Below.refl _ _) (Nat.le_refl _) (by simp) ?_; (case hd => rfl); (case hg => rfl); (case hr => first | (go_simp; done) | (go_simp; rfl)); (case hp => exact (Reps.one (show Kd.M (Kd.int .i64) _ _ _ a2 [.int .i64 a2] from rfl) (Reps.none _ _))); intro v965 w24 ho25 hb hg_ hnew_; clear hg_ hnew_; (first | rw [← Ny964.out] at ho25 | (simp only [Int.reduceToNat] at ho25; rw [← Ny964.out] at ho25)); have n0_ := Aside0.mk (Kd.R_elder' zam11 (Kd.R_base ho25) hb); have n1_ := Aside0.mk (Kd.S_elder' zam17 (Kd.R_base ho25) hb); have n2_ := Aside0.mk (Kd.S_elder' zam29 (Kd.R_base ho25) hb); have n3_ := Aside0.mk (Kd.R_lower (Kd.R_new' ho25 (Kd.R_lt zam11)) (below_size zam2)); have n4_ := Aside0.mk (blk_below (g := gb950) (o := .cells #[.int .i64 a0_0, .int .i64 a0_1, .slice A0_2 l0_2.length c0_2] 30 (0, 0)) zam3 hb); have n5_ := Aside0.mk (blk_below (g := gb951) (o := .cells #[.int .i64 a1_0, .int .i64 a1_1] 32 (0, 0)) zam4 hb); have n6_ := Aside0.mk (blk_below (g := gb958) (o := .cells #[.int .i64 a0_0, .int .i64 a0_1, .slice A0_2 l0_2.length c0_2, .int .i64 a1_0, .int .i64 a1_1, v953, v956] 84 (0, 0)) zam6 hb); have n7_ := Aside0.mk (below_step zam2 hb); have n8_ := Aside0.mk (show nb979_ ≤ w24.heap.size from zam5); clear HO954; clear HO957; clear HO963; clear BK950; clear BK951; clear BK958; clear HB; clear HNB979; have HO954 := n0_; have HO957 := n1_; have HO963 := n2_; have HO966 := n3_; have BK950 := n4_; have BK951 := n5_; have BK958 := n6_; have HB := n7_; have HNB979 := n8_; clear n0_ n1_ n2_ n3_ n4_ n5_ n6_ n7_ n8_; clear hb ho25))
 repeat ((first | go_quiet (first | (go_at_call 66; (with_reducible refine (impl_two.calls k a0_0 a0_1 _ _ l0_2 a1_0 a1_1 a2 a2 t952 t955 true _ ?side1 ?side2 A5.out).mono ?_); (case side1 => exact zam7); (case side2 => exact HC0_2.out); rintro e w20 ⟨v953, v956, pv959, rfl, hgp, ho0, ho1, hb⟩; obtain ⟨gb958, rfl, hbox, hge⟩ := hgp.1 rfl; have n0_ := Aside0.mk (Kd.R_lower ho0 (below_size zam1)); have n1_ := Aside0.mk (Kd.S_lower ho1 (below_size zam1)); have n2_ := Aside0.mk (blk_below (g := gb950) (o := .cells #[.int .i64 a0_0, .int .i64 a0_1, .slice A0_2 l0_2.length c0_2] 30 (0, 0)) zam3 hb); have n3_ := Aside0.mk (blk_below (g := gb951) (o := .cells #[.int .i64 a1_0, .int .i64 a1_1] 32 (0, 0)) zam4 hb); have n4_ := Aside0.mk (hbox); have n5_ := Aside0.mk ((Nat.le_trans zam35 hge : w.heap.size ≤ gb958)); have n6_ := Aside0.mk ((Nat.le_trans zam35 hge : w.heap.size ≤ gb958)); have n7_ := Aside0.mk ((Nat.ne_of_lt (Nat.lt_of_lt_of_le (blk_lt (g := gb950) (o := .cells #[.int .i64 a0_0, .int .i64 a0_1, .slice A0_2 l0_2.length c0_2] 30 (0, 0)) zam3) hge) : gb950 ≠ gb958)); have n8_ := Aside0.mk ((Nat.ne_of_gt (Nat.lt_of_lt_of_le (blk_lt (g := gb950) (o := .cells #[.int .i64 a0_0, .int .i64 a0_1, .slice A0_2 l0_2.length c0_2] 30 (0, 0)) zam3) hge) : gb958 ≠ gb950)); have n9_ := Aside0.mk ((Nat.ne_of_lt (Nat.lt_of_lt_of_le (blk_lt (g := gb951) (o := .cells #[.int .i64 a1_0, .int .i64 a1_1] 32 (0, 0)) zam4) hge) : gb951 ≠ gb958)); have n10_ := Aside0.mk ((Nat.ne_of_gt (Nat.lt_of_lt_of_le (blk_lt (g := gb951) (o := .cells #[.int .i64 a1_0, .int .i64 a1_1] 32 (0, 0)) zam4) hge) : gb958 ≠ gb951)); have n11_ := Aside0.mk (below_step zam1 hb); clear BK950; clear BK951; clear HB; have HO954 := n0_; have HO957 := n1_; have BK950 := n2_; have BK951 := n3_; have BK958 := n4_; have GW958 := n5_; have GE958 := n6_; have NB950_958 := n7_; have NB958_950 := n8_; have NB951_958 := n9_; have NB958_951 := n10_; have HB := n11_; clear n0_ n1_ n2_ n3_ n4_ n5_ n6_ n7_ n8_ n9_ n10_ n11_; (try clear hb); (try clear hb2); (try clear hk); (try clear hi); (try clear ho0); (try clear ho1); (try clear hgp); (try clear hbox); (try clear hge); (try clear hna_); (try clear hnb_); have hnb21 := NB951_958.out; have hnc21 := NB958_951.out; have hcz22_0 : w20.cell? ⟨gb951, 0, none⟩ = some (.int .i64 a1_0) := (blk_cell BK951.out 0).trans rfl; have hcz22_1 : w20.cell? ⟨gb951, 1, none⟩ = some (.int .i64 a1_1) := (blk_cell BK951.out 1).trans rfl; have hfz22_0 := blk_frozen BK951.out 0; have hfz22_1 := blk_frozen BK951.out 1) | (go_at_call 43; (with_reducible refine (impl_Leaper_steps.calls k a1_0 a1_1 t961 _ A14.out).mono ?_); rintro e w23 ⟨v962, rfl, ho0, hb⟩; obtain ⟨na979_, nb979_, hna_, hnb_⟩ := rng_of hb; replace ho0 := rng_new ho0 hna_ hnb_; have n0_ := Aside0.mk (Kd.R_below zam11 hb); have n1_ := Aside0.mk (Kd.S_elder' (Kd.S_mono (Kd.S_bound zam17) (fun k_ hk_ => (⟨hk_.1, rng_lt hna_ hk_.2.2.1⟩ : _ ∧ k_ ≠ (rngIn na979_ nb979_ k_)))) (Kd.S_base ho0) hb); have n2_ := Aside0.mk (Kd.S_lower (Kd.S_new' (Kd.S_new' ho0 (Kd.R_lt zam11)) (Kd.S_lt zam17)) (below_size zam2)); have n3_ := Aside0.mk (blk_below (g := gb950) (o := .cells #[.int .i64 a0_0, .int .i64 a0_1, .slice A0_2 l0_2.length c0_2] 30 (0, 0)) zam3 hb); have n4_ := Aside0.mk (blk_below (g := gb951) (o := .cells #[.int .i64 a1_0, .int .i64 a1_1] 32 (0, 0)) zam4 hb); have n5_ := Aside0.mk (blk_below (g := gb958) (o := .cells #[.int .i64 a0_0, .int .i64 a0_1, .slice A0_2 l0_2.length c0_2, .int .i64 a1_0, .int .i64 a1_1, v953, v956] 84 (0, 0)) zam6 hb); have n6_ := Aside0.mk ((Nat.le_of_eq hnb_.symm : nb979_ ≤ w23.heap.size)); have n7_ := Aside0.mk (below_step zam2 hb); clear HO954; clear HO957; clear BK950; clear BK951; clear BK958; clear HB; have HO954 := n0_; have HO957 := n1_; have HO963 := n2_; have BK950 := n3_; have BK951 := n4_; have BK958 := n5_; have HNB979 := n6_; have HB := n7_; clear n0_ n1_ n2_ n3_ n4_ n5_ n6_ n7_; (try clear hb); (try clear hb2); (try clear hk); (try clear hi); (try clear ho0); (try clear hna_); (try clear hnb_)) | ((with_reducible refine gate_dst (N := 37) rfl ?_); (try (refine gate_guard (by rfl) ?_; dsimp only)); refine Kd.R_lit (Kd.int .i64) _ 3 ?hg (N := 37) ?hd (xs := ([a2] : List Int)) (inner := [.int .i64 a2]) (ok := fun _ => True) (okp := fun _ => True) ?hr ?hp (fun _ hk => hk) trivial (Below.refl _ _) (Nat.le_refl _) (by simp) ?_; (case hd => rfl); (case hg => rfl); (case hr => first | (go_simp; done) | (go_simp; rfl)); (case hp => exact (Reps.one (show Kd.M (Kd.int .i64) _ _ _ a2 [.int .i64 a2] from rfl) (Reps.none _ _))); intro v965 w24 ho25 hb hg_ hnew_; clear hg_ hnew_; (first | rw [← Ny964.out] at ho25 | (simp only [Int.reduceToNat] at ho25; rw [← Ny964.out] at ho25)); have n0_ := Aside0.mk (Kd.R_elder' zam11 (Kd.R_base ho25) hb); have n1_ := Aside0.mk (Kd.S_elder' zam17 (Kd.R_base ho25) hb); have n2_ := Aside0.mk (Kd.S_elder' zam29 (Kd.R_base ho25) hb); have n3_ := Aside0.mk (Kd.R_lower (Kd.R_new' ho25 (Kd.R_lt zam11)) (below_size zam2)); have n4_ := Aside0.mk (blk_below (g := gb950) (o := .cells #[.int .i64 a0_0, .int .i64 a0_1, .slice A0_2 l0_2.length c0_2] 30 (0, 0)) zam3 hb); have n5_ := Aside0.mk (blk_below (g := gb951) (o := .cells #[.int .i64 a1_0, .int .i64 a1_1] 32 (0, 0)) zam4 hb); have n6_ := Aside0.mk (blk_below (g := gb958) (o := .cells #[.int .i64 a0_0, .int .i64 a0_1, .slice A0_2 l0_2.length c0_2, .int .i64 a1_0, .int .i64 a1_1, v953, v956] 84 (0, 0)) zam6 hb); have n7_ := Aside0.mk (below_step zam2 hb); have n8_ := Aside0.mk (show nb979_ ≤ w24.heap.size from zam5); clear HO954; clear HO957; clear HO963; clear BK950; clear BK951; clear BK958; clear HB; clear HNB979; have HO954 := n0_; have HO957 := n1_; have HO963 := n2_; have HO966 := n3_; have BK950 := n4_; have BK951 := n5_; have BK958 := n6_; have HB := n7_; have HNB979 := n8_; clear n0_ n1_ n2_ n3_ n4_ n5_ n6_ n7_ n8_; clear hb ho25)) | (refine wp_region_quiet_lit (by kernel_rfl) (by kernel_rfl) ?_; (repeat (any_goals (first | go_big_quiet_step (first | (go_at_call 66; (with_reducible refine (impl_two.calls k a0_0 a0_1 _ _ l0_2 a1_0 a1_1 a2 a2 t952 t955 true _ ?side1 ?side2 A5.out).mono ?_); (case side1 => exact zam7); (case side2 => exact HC0_2.out); rintro e w20 ⟨v953, v956, pv959, rfl, hgp, ho0, ho1, hb⟩; obtain ⟨gb958, rfl, hbox, hge⟩ := hgp.1 rfl; have n0_ := Aside0.mk (Kd.R_lower ho0 (below_size zam1)); have n1_ := Aside0.mk (Kd.S_lower ho1 (below_size zam1)); have n2_ := Aside0.mk (blk_below (g := gb950) (o := .cells #[.int .i64 a0_0, .int .i64 a0_1, .slice A0_2 l0_2.length c0_2] 30 (0, 0)) zam3 hb); have n3_ := Aside0.mk (blk_below (g := gb951) (o := .cells #[.int .i64 a1_0, .int .i64 a1_1] 32 (0, 0)) zam4 hb); have n4_ := Aside0.mk (hbox); have n5_ := Aside0.mk ((Nat.le_trans zam35 hge : w.heap.size ≤ gb958)); have n6_ := Aside0.mk ((Nat.le_trans zam35 hge : w.heap.size ≤ gb958)); have n7_ := Aside0.mk ((Nat.ne_of_lt (Nat.lt_of_lt_of_le (blk_lt (g := gb950) (o := .cells #[.int .i64 a0_0, .int .i64 a0_1, .slice A0_2 l0_2.length c0_2] 30 (0, 0)) zam3) hge) : gb950 ≠ gb958)); have n8_ := Aside0.mk ((Nat.ne_of_gt (Nat.lt_of_lt_of_le (blk_lt (g := gb950) (o := .cells #[.int .i64 a0_0, .int .i64 a0_1, .slice A0_2 l0_2.length c0_2] 30 (0, 0)) zam3) hge) : gb958 ≠ gb950)); have n9_ := Aside0.mk ((Nat.ne_of_lt (Nat.lt_of_lt_of_le (blk_lt (g := gb951) (o := .cells #[.int .i64 a1_0, .int .i64 a1_1] 32 (0, 0)) zam4) hge) : gb951 ≠ gb958)); have n10_ := Aside0.mk ((Nat.ne_of_gt (Nat.lt_of_lt_of_le (blk_lt (g := gb951) (o := .cells #[.int .i64 a1_0, .int .i64 a1_1] 32 (0, 0)) zam4) hge) : gb958 ≠ gb951)); have n11_ := Aside0.mk (below_step zam1 hb); clear BK950; clear BK951; clear HB; have HO954 := n0_; have HO957 := n1_; have BK950 := n2_; have BK951 := n3_; have BK958 := n4_; have GW958 := n5_; have GE958 := n6_; have NB950_958 := n7_; have NB958_950 := n8_; have NB951_958 := n9_; have NB958_951 := n10_; have HB := n11_; clear n0_ n1_ n2_ n3_ n4_ n5_ n6_ n7_ n8_ n9_ n10_ n11_; (try clear hb); (try clear hb2); (try clear hk); (try clear hi); (try clear ho0); (try clear ho1); (try clear hgp); (try clear hbox); (try clear hge); (try clear hna_); (try clear hnb_); have hnb21 := NB951_958.out; have hnc21 := NB958_951.out; have hcz22_0 : w20.cell? ⟨gb951, 0, none⟩ = some (.int .i64 a1_0) := (blk_cell BK951.out 0).trans rfl; have hcz22_1 : w20.cell? ⟨gb951, 1, none⟩ = some (.int .i64 a1_1) := (blk_cell BK951.out 1).trans rfl; have hfz22_0 := blk_frozen BK951.out 0; have hfz22_1 := blk_frozen BK951.out 1) | (go_at_call 43; (with_reducible refine (impl_Leaper_steps.calls k a1_0 a1_1 t961 _ A14.out).mono ?_); rintro e w23 ⟨v962, rfl, ho0, hb⟩; obtain ⟨na979_, nb979_, hna_, hnb_⟩ := rng_of hb; replace ho0 := rng_new ho0 hna_ hnb_; have n0_ := Aside0.mk (Kd.R_below zam11 hb); have n1_ := Aside0.mk (Kd.S_elder' (Kd.S_mono (Kd.S_bound zam17) (fun k_ hk_ => (⟨hk_.1, rng_lt hna_ hk_.2.2.1⟩ : _ ∧ k_ ≠ (rngIn na979_ nb979_ k_)))) (Kd.S_base ho0) hb); have n2_ := Aside0.mk (Kd.S_lower (Kd.S_new' (Kd.S_new' ho0 (Kd.R_lt zam11)) (Kd.S_lt zam17)) (below_size zam2)); have n3_ := Aside0.mk (blk_below (g := gb950) (o := .cells #[.int .i64 a0_0, .int .i64 a0_1, .slice A0_2 l0_2.length c0_2] 30 (0, 0)) zam3 hb); have n4_ := Aside0.mk (blk_below (g := gb951) (o := .cells #[.int .i64 a1_0, .int .i64 a1_1] 32 (0, 0)) zam4 hb); have n5_ := Aside0.mk (blk_below (g := gb958) (o := .cells #[.int .i64 a0_0, .int .i64 a0_1, .slice A0_2 l0_2.length c0_2, .int .i64 a1_0, .int .i64 a1_1, v953, v956] 84 (0, 0)) zam6 hb); have n6_ := Aside0.mk ((Nat.le_of_eq hnb_.symm : nb979_ ≤ w23.heap.size)); have n7_ := Aside0.mk (below_step zam2 hb); clear HO954; clear HO957; clear BK950; clear BK951; clear BK958; clear HB; have HO954 := n0_; have HO957 := n1_; have HO963 := n2_; have BK950 := n3_; have BK951 := n4_; have BK958 := n5_; have HNB979 := n6_; have HB := n7_; clear n0_ n1_ n2_ n3_ n4_ n5_ n6_ n7_; (try clear hb); (try clear hb2); (try clear hk); (try clear hi); (try clear ho0); (try clear hna_); (try clear hnb_)) | ((with_reducible refine gate_dst (N := 37) rfl ?_); (try (refine gate_guard (by rfl) ?_; dsimp only)); refine Kd.R_lit (Kd.int .i64) _ 3 ?hg (N := 37) ?hd (xs := ([a2] : List Int)) (inner := [.int .i64 a2]) (ok := fun _ => True) (okp := fun _ => True) ?hr ?hp (fun _ hk => hk) trivial (Below.refl _ _) (Nat.le_refl _) (by simp) ?_; (case hd => rfl); (case hg => rfl); (case hr => first | (go_simp; done) | (go_simp; rfl)); (case hp => exact (Reps.one (show Kd.M (Kd.int .i64) _ _ _ a2 [.int .i64 a2] from rfl) (Reps.none _ _))); intro v965 w24 ho25 hb hg_ hnew_; clear hg_ hnew_; (first | rw [← Ny964.out] at ho25 | (simp only [Int.reduceToNat] at ho25; rw [← Ny964.out] at ho25)); have n0_ := Aside0.mk (Kd.R_elder' zam11 (Kd.R_base ho25) hb); have n1_ := Aside0.mk (Kd.S_elder' zam17 (Kd.R_base ho25) hb); have n2_ := Aside0.mk (Kd.S_elder' zam29 (Kd.R_base ho25) hb); have n3_ := Aside0.mk (Kd.R_lower (Kd.R_new' ho25 (Kd.R_lt zam11)) (below_size zam2)); have n4_ := Aside0.mk (blk_below (g := gb950) (o := .cells #[.int .i64 a0_0, .int .i64 a0_1, .slice A0_2 l0_2.length c0_2] 30 (0, 0)) zam3 hb); have n5_ := Aside0.mk (blk_below (g := gb951) (o := .cells #[.int .i64 a1_0, .int .i64 a1_1] 32 (0, 0)) zam4 hb); have n6_ := Aside0.mk (blk_below (g := gb958) (o := .cells #[.int .i64 a0_0, .int .i64 a0_1, .slice A0_2 l0_2.length c0_2, .int .i64 a1_0, .int .i64 a1_1, v953, v956] 84 (0, 0)) zam6 hb); have n7_ := Aside0.mk (below_step zam2 hb); have n8_ := Aside0.mk (show nb979_ ≤ w24.heap.size from zam5); clear HO954; clear HO957; clear HO963; clear BK950; clear BK951; clear BK958; clear HB; clear HNB979; have HO954 := n0_; have HO957 := n1_; have HO963 := n2_; have HO966 := n3_; have BK950 := n4_; have BK951 := n5_; have BK958 := n6_; have HB := n7_; have HNB979 := n8_; clear n0_ n1_ n2_ n3_ n4_ n5_ n6_ n7_ n8_; clear hb ho25)) | quiet_step (first | (go_at_call 66; (with_reducible refine (impl_two.calls k a0_0 a0_1 _ _ l0_2 a1_0 a1_1 a2 a2 t952 t955 true _ ?side1 ?side2 A5.out).mono ?_); (case side1 => exact zam7); (case side2 => exact HC0_2.out); rintro e w20 ⟨v953, v956, pv959, rfl, hgp, ho0, ho1, hb⟩; obtain ⟨gb958, rfl, hbox, hge⟩ := hgp.1 rfl; have n0_ := Aside0.mk (Kd.R_lower ho0 (below_size zam1)); have n1_ := Aside0.mk (Kd.S_lower ho1 (below_size zam1)); have n2_ := Aside0.mk (blk_below (g := gb950) (o := .cells #[.int .i64 a0_0, .int .i64 a0_1, .slice A0_2 l0_2.length c0_2] 30 (0, 0)) zam3 hb); have n3_ := Aside0.mk (blk_below (g := gb951) (o := .cells #[.int .i64 a1_0, .int .i64 a1_1] 32 (0, 0)) zam4 hb); have n4_ := Aside0.mk (hbox); have n5_ := Aside0.mk ((Nat.le_trans zam35 hge : w.heap.size ≤ gb958)); have n6_ := Aside0.mk ((Nat.le_trans zam35 hge : w.heap.size ≤ gb958)); have n7_ := Aside0.mk ((Nat.ne_of_lt (Nat.lt_of_lt_of_le (blk_lt (g := gb950) (o := .cells #[.int .i64 a0_0, .int .i64 a0_1, .slice A0_2 l0_2.length c0_2] 30 (0, 0)) zam3) hge) : gb950 ≠ gb958)); have n8_ := Aside0.mk ((Nat.ne_of_gt (Nat.lt_of_lt_of_le (blk_lt (g := gb950) (o := .cells #[.int .i64 a0_0, .int .i64 a0_1, .slice A0_2 l0_2.length c0_2] 30 (0, 0)) zam3) hge) : gb958 ≠ gb950)); have n9_ := Aside0.mk ((Nat.ne_of_lt (Nat.lt_of_lt_of_le (blk_lt (g := gb951) (o := .cells #[.int .i64 a1_0, .int .i64 a1_1] 32 (0, 0)) zam4) hge) : gb951 ≠ gb958)); have n10_ := Aside0.mk ((Nat.ne_of_gt (Nat.lt_of_lt_of_le (blk_lt (g := gb951) (o := .cells #[.int .i64 a1_0, .int .i64 a1_1] 32 (0, 0)) zam4) hge) : gb958 ≠ gb951)); have n11_ := Aside0.mk (below_step zam1 hb); clear BK950; clear BK951; clear HB; have HO954 := n0_; have HO957 := n1_; have BK950 := n2_; have BK951 := n3_; have BK958 := n4_; have GW958 := n5_; have GE958 := n6_; have NB950_958 := n7_; have NB958_950 := n8_; have NB951_958 := n9_; have NB958_951 := n10_; have HB := n11_; clear n0_ n1_ n2_ n3_ n4_ n5_ n6_ n7_ n8_ n9_ n10_ n11_; (try clear hb); (try clear hb2); (try clear hk); (try clear hi); (try clear ho0); (try clear ho1); (try clear hgp); (try clear hbox); (try clear hge); (try clear hna_); (try clear hnb_); have hnb21 := NB951_958.out; have hnc21 := NB958_951.out; have hcz22_0 : w20.cell? ⟨gb951, 0, none⟩ = some (.int .i64 a1_0) := (blk_cell BK951.out 0).trans rfl; have hcz22_1 : w20.cell? ⟨gb951, 1, none⟩ = some (.int .i64 a1_1) := (blk_cell BK951.out 1).trans rfl; have hfz22_0 := blk_frozen BK951.out 0; have hfz22_1 := blk_frozen BK951.out 1) | (go_at_call 43; (with_reducible refine (impl_Leaper_steps.calls k a1_0 a1_1 t961 _ A14.out).mono ?_); rintro e w23 ⟨v962, rfl, ho0, hb⟩; obtain ⟨na979_, nb979_, hna_, hnb_⟩ := rng_of hb; replace ho0 := rng_new ho0 hna_ hnb_; have n0_ := Aside0.mk (Kd.R_below zam11 hb); have n1_ := Aside0.mk (Kd.S_elder' (Kd.S_mono (Kd.S_bound zam17) (fun k_ hk_ => (⟨hk_.1, rng_lt hna_ hk_.2.2.1⟩ : _ ∧ k_ ≠ (rngIn na979_ nb979_ k_)))) (Kd.S_base ho0) hb); have n2_ := Aside0.mk (Kd.S_lower (Kd.S_new' (Kd.S_new' ho0 (Kd.R_lt zam11)) (Kd.S_lt zam17)) (below_size zam2)); have n3_ := Aside0.mk (blk_below (g := gb950) (o := .cells #[.int .i64 a0_0, .int .i64 a0_1, .slice A0_2 l0_2.length c0_2] 30 (0, 0)) zam3 hb); have n4_ := Aside0.mk (blk_below (g := gb951) (o := .cells #[.int .i64 a1_0, .int .i64 a1_1] 32 (0, 0)) zam4 hb); have n5_ := Aside0.mk (blk_below (g := gb958) (o := .cells #[.int .i64 a0_0, .int .i64 a0_1, .slice A0_2 l0_2.length c0_2, .int .i64 a1_0, .int .i64 a1_1, v953, v956] 84 (0, 0)) zam6 hb); have n6_ := Aside0.mk ((Nat.le_of_eq hnb_.symm : nb979_ ≤ w23.heap.size)); have n7_ := Aside0.mk (below_step zam2 hb); clear HO954; clear HO957; clear BK950; clear BK951; clear BK958; clear HB; have HO954 := n0_; have HO957 := n1_; have HO963 := n2_; have BK950 := n3_; have BK951 := n4_; have BK958 := n5_; have HNB979 := n6_; have HB := n7_; clear n0_ n1_ n2_ n3_ n4_ n5_ n6_ n7_; (try clear hb); (try clear hb2); (try clear hk); (try clear hi); (try clear ho0); (try clear hna_); (try clear hnb_)) | ((with_reducible refine gate_dst (N := 37) rfl ?_); (try (refine gate_guard (by rfl) ?_; dsimp only)); refine Kd.R_lit (Kd.int .i64) _ 3 ?hg (N := 37) ?hd (xs := ([a2] : List Int)) (inner := [.int .i64 a2]) (ok := fun _ => True) (okp := fun _ => True) ?hr ?hp (fun _ hk => hk) trivial (Below.refl _ _) (Nat.le_refl _) (by simp) ?_; (case hd => rfl); (case hg => rfl); (case hr => first | (go_simp; done) | (go_simp; rfl)); (case hp => exact (Reps.one (show Kd.M (Kd.int .i64) _ _ _ a2 [.int .i64 a2] from rfl) (Reps.none _ _))); intro v965 w24 ho25 hb hg_ hnew_; clear hg_ hnew_; (first | rw [← Ny964.out] at ho25 | (simp only [Int.reduceToNat] at ho25; rw [← Ny964.out] at ho25)); have n0_ := Aside0.mk (Kd.R_elder' zam11 (Kd.R_base ho25) hb); have n1_ := Aside0.mk (Kd.S_elder' zam17 (Kd.R_base ho25) hb); have n2_ := Aside0.mk (Kd.S_elder' zam29 (Kd.R_base ho25) hb); have n3_ := Aside0.mk (Kd.R_lower (Kd.R_new' ho25 (Kd.R_lt zam11)) (below_size zam2)); have n4_ := Aside0.mk (blk_below (g := gb950) (o := .cells #[.int .i64 a0_0, .int .i64 a0_1, .slice A0_2 l0_2.length c0_2] 30 (0, 0)) zam3 hb); have n5_ := Aside0.mk (blk_below (g := gb951) (o := .cells #[.int .i64 a1_0, .int .i64 a1_1] 32 (0, 0)) zam4 hb); have n6_ := Aside0.mk (blk_below (g := gb958) (o := .cells #[.int .i64 a0_0, .int .i64 a0_1, .slice A0_2 l0_2.length c0_2, .int .i64 a1_0, .int .i64 a1_1, v953, v956] 84 (0, 0)) zam6 hb); have n7_ := Aside0.mk (below_step zam2 hb); have n8_ := Aside0.mk (show nb979_ ≤ w24.heap.size from zam5); clear HO954; clear HO957; clear HO963; clear BK950; clear BK951; clear BK958; clear HB; clear HNB979; have HO954 := n0_; have HO957 := n1_; have HO963 := n2_; have HO966 := n3_; have BK950 := n4_; have BK951 := n5_; have BK958 := n6_; have HB := n7_; have HNB979 := n8_; clear n0_ n1_ n2_ n3_ n4_ n5_ n6_ n7_ n8_; clear hb ho25))))); all_goals (refine wpQuiet_nil ?_; intro _ hw2_; obtain ⟨nq, hw3_⟩ := hw2_; subst hw3_))); try go_wp2_with (first | ((with_reducible refine gate_dst (N := 4) rfl ?_); (try (refine gate_guard (by rfl) ?_; dsimp only)); refine box_event ?hg (N := 4) ?hd (cs := #[.int .i64 a0_0, .int .i64 a0_1, .slice A0_2 l0_2.length c0_2]) (t := 30) ?hr ?_; (case hd => rfl); (case hg => rfl); (case hr => first | (go_simp; done) | (go_simp; rfl)); intro gb950 hg w15 hbox hb; have n0_ := Aside0.mk (below_step zam10 hb); have n1_ := Aside0.mk (hbox); have n2_ := Aside0.mk ((zam38 : w.heap.size ≤ gb950)); have n3_ := Aside0.mk ((zam38 : w.heap.size ≤ gb950)); clear HB; have HB := n0_; have BK950 := n1_; have GW950 := n2_; have GE950 := n3_; clear n0_ n1_ n2_ n3_; clear hb hbox hg) | ((with_reducible refine gate_dst (N := 5) rfl ?_); (try (refine gate_guard (by rfl) ?_; dsimp only)); refine box_event ?hg (N := 5) ?hd (cs := #[.int .i64 a1_0, .int .i64 a1_1]) (t := 32) ?hr ?_; (case hd => rfl); (case hg => rfl); (case hr => first | (go_simp; done) | (go_simp; rfl)); intro gb951 hg w16 hbox hb; have n0_ := Aside0.mk (blk_below (g := gb950) (o := .cells #[.int .i64 a0_0, .int .i64 a0_1, .slice A0_2 l0_2.length c0_2] 30 (0, 0)) zam3 hb); have n1_ := Aside0.mk (below_step zam8 hb); have n2_ := Aside0.mk (hbox); have n3_ := Aside0.mk ((zam39 : w.heap.size ≤ gb951)); have n4_ := Aside0.mk ((zam39 : w.heap.size ≤ gb951)); have n5_ := Aside0.mk ((zam33 : gb950 ≠ gb951)); have n6_ := Aside0.mk ((zam34 : gb951 ≠ gb950)); clear BK950; clear HB; have BK950 := n0_; have HB := n1_; have BK951 := n2_; have GW951 := n3_; have GE951 := n4_; have NB950_951 := n5_; have NB951_950 := n6_; clear n0_ n1_ n2_ n3_ n4_ n5_ n6_; clear hb hbox hg; have hnb17 := NB950_951.out; have hnc17 := NB951_950.out; have hcz18_0 : w16.cell? ⟨gb950, 0, none⟩ = some (.int .i64 a0_0) := (blk_cell BK950.out 0).trans rfl; have hcz18_1 : w16.cell? ⟨gb950, 1, none⟩ = some (.int .i64 a0_1) := (blk_cell BK950.out 1).trans rfl; have hcz18_2 : w16.cell? ⟨gb950, 2, none⟩ = some (.slice A0_2 l0_2.length c0_2) := (blk_cell BK950.out 2).trans rfl; have hfz18_0 := blk_frozen BK950.out 0; have hfz18_1 := blk_frozen BK950.out 1; have hfz18_2 := blk_frozen BK950.out 2; have hcz19_0 : w16.cell? ⟨gb951, 0, none⟩ = some (.int .i64 a1_0) := (blk_cell BK951.out 0).trans rfl; have hcz19_1 : w16.cell? ⟨gb951, 1, none⟩ = some (.int .i64 a1_1) := (blk_cell BK951.out 1).trans rfl; have hfz19_0 := blk_frozen BK951.out 0; have hfz19_1 := blk_frozen BK951.out 1) | (go_at_call 66; (with_reducible refine (impl_two.calls k a0_0 a0_1 _ _ l0_2 a1_0 a1_1 a2 a2 t952 t955 true _ ?side1 ?side2 A5.out).mono ?_); (case side1 => exact zam7); (case side2 => exact HC0_2.out); rintro e w20 ⟨v953, v956, pv959, rfl, hgp, ho0, ho1, hb⟩; obtain ⟨gb958, rfl, hbox, hge⟩ := hgp.1 rfl; have n0_ := Aside0.mk (Kd.R_lower ho0 (below_size zam1)); have n1_ := Aside0.mk (Kd.S_lower ho1 (below_size zam1)); have n2_ := Aside0.mk (blk_below (g := gb950) (o := .cells #[.int .i64 a0_0, .int .i64 a0_1, .slice A0_2 l0_2.length c0_2] 30 (0, 0)) zam3 hb); have n3_ := Aside0.mk (blk_below (g := gb951) (o := .cells #[.int .i64 a1_0, .int .i64 a1_1] 32 (0, 0)) zam4 hb); have n4_ := Aside0.mk (hbox); have n5_ := Aside0.mk ((Nat.le_trans zam35 hge : w.heap.size ≤ gb958)); have n6_ := Aside0.mk ((Nat.le_trans zam35 hge : w.heap.size ≤ gb958)); have n7_ := Aside0.mk ((Nat.ne_of_lt (Nat.lt_of_lt_of_le (blk_lt (g := gb950) (o := .cells #[.int .i64 a0_0, .int .i64 a0_1, .slice A0_2 l0_2.length c0_2] 30 (0, 0)) zam3) hge) : gb950 ≠ gb958)); have n8_ := Aside0.mk ((Nat.ne_of_gt (Nat.lt_of_lt_of_le (blk_lt (g := gb950) (o := .cells #[.int .i64 a0_0, .int .i64 a0_1, .slice A0_2 l0_2.length c0_2] 30 (0, 0)) zam3) hge) : gb958 ≠ gb950)); have n9_ := Aside0.mk ((Nat.ne_of_lt (Nat.lt_of_lt_of_le (blk_lt (g := gb951) (o := .cells #[.int .i64 a1_0, .int .i64 a1_1] 32 (0, 0)) zam4) hge) : gb951 ≠ gb958)); have n10_ := Aside0.mk ((Nat.ne_of_gt (Nat.lt_of_lt_of_le (blk_lt (g := gb951) (o := .cells #[.int .i64 a1_0, .int .i64 a1_1] 32 (0, 0)) zam4) hge) : gb958 ≠ gb951)); have n11_ := Aside0.mk (below_step zam1 hb); clear BK950; clear BK951; clear HB; have HO954 := n0_; have HO957 := n1_; have BK950 := n2_; have BK951 := n3_; have BK958 := n4_; have GW958 := n5_; have GE958 := n6_; have NB950_958 := n7_; have NB958_950 := n8_; have NB951_958 := n9_; have NB958_951 := n10_; have HB := n11_; clear n0_ n1_ n2_ n3_ n4_ n5_ n6_ n7_ n8_ n9_ n10_ n11_; (try clear hb); (try clear hb2); (try clear hk); (try clear hi); (try clear ho0); (try clear ho1); (try clear hgp); (try clear hbox); (try clear hge); (try clear hna_); (try clear hnb_); have hnb21 := NB951_958.out; have hnc21 := NB958_951.out; have hcz22_0 : w20.cell? ⟨gb951, 0, none⟩ = some (.int .i64 a1_0) := (blk_cell BK951.out 0).trans rfl; have hcz22_1 : w20.cell? ⟨gb951, 1, none⟩ = some (.int .i64 a1_1) := (blk_cell BK951.out 1).trans rfl; have hfz22_0 := blk_frozen BK951.out 0; have hfz22_1 := blk_frozen BK951.out 1) | (go_at_call 43; (with_reducible refine (impl_Leaper_steps.calls k a1_0 a1_1 t961 _ A14.out).mono ?_); rintro e w23 ⟨v962, rfl, ho0, hb⟩; obtain ⟨na979_, nb979_, hna_, hnb_⟩ := rng_of hb; replace ho0 := rng_new ho0 hna_ hnb_; have n0_ := Aside0.mk (Kd.R_below zam11 hb); have n1_ := Aside0.mk (Kd.S_elder' (Kd.S_mono (Kd.S_bound zam17) (fun k_ hk_ => (⟨hk_.1, rng_lt hna_ hk_.2.2.1⟩ : _ ∧ k_ ≠ (rngIn na979_ nb979_ k_)))) (Kd.S_base ho0) hb); have n2_ := Aside0.mk (Kd.S_lower (Kd.S_new' (Kd.S_new' ho0 (Kd.R_lt zam11)) (Kd.S_lt zam17)) (below_size zam2)); have n3_ := Aside0.mk (blk_below (g := gb950) (o := .cells #[.int .i64 a0_0, .int .i64 a0_1, .slice A0_2 l0_2.length c0_2] 30 (0, 0)) zam3 hb); have n4_ := Aside0.mk (blk_below (g := gb951) (o := .cells #[.int .i64 a1_0, .int .i64 a1_1] 32 (0, 0)) zam4 hb); have n5_ := Aside0.mk (blk_below (g := gb958) (o := .cells #[.int .i64 a0_0, .int .i64 a0_1, .slice A0_2 l0_2.length c0_2, .int .i64 a1_0, .int .i64 a1_1, v953, v956] 84 (0, 0)) zam6 hb); have n6_ := Aside0.mk ((Nat.le_of_eq hnb_.symm : nb979_ ≤ w23.heap.size)); have n7_ := Aside0.mk (below_step zam2 hb); clear HO954; clear HO957; clear BK950; clear BK951; clear BK958; clear HB; have HO954 := n0_; have HO957 := n1_; have HO963 := n2_; have BK950 := n3_; have BK951 := n4_; have BK958 := n5_; have HNB979 := n6_; have HB := n7_; clear n0_ n1_ n2_ n3_ n4_ n5_ n6_ n7_; (try clear hb); (try clear hb2); (try clear hk); (try clear hi); (try clear ho0); (try clear hna_); (try clear hnb_)) | ((with_reducible refine gate_dst (N := 37) rfl ?_); (try (refine gate_guard (by rfl) ?_; dsimp only)); refine Kd.R_lit (Kd.int .i64) _ 3 ?hg (N := 37) ?hd (xs := ([a2] : List Int)) (inner := [.int .i64 a2]) (ok := fun _ => True) (okp := fun _ => True) ?hr ?hp (fun _ hk => hk) trivial (Below.refl _ _) (Nat.le_refl _) (by simp) ?_; (case hd => rfl); (case hg => rfl); (case hr => first | (go_simp; done) | (go_simp; rfl)); (case hp => exact (Reps.one (show Kd.M (Kd.int .i64) _ _ _ a2 [.int .i64 a2] from rfl) (Reps.none _ _))); intro v965 w24 ho25 hb hg_ hnew_; clear hg_ hnew_; (first | rw [← Ny964.out] at ho25 | (simp only [Int.reduceToNat] at ho25; rw [← Ny964.out] at ho25)); have n0_ := Aside0.mk (Kd.R_elder' zam11 (Kd.R_base ho25) hb); have n1_ := Aside0.mk (Kd.S_elder' zam17 (Kd.R_base ho25) hb); have n2_ := Aside0.mk (Kd.S_elder' zam29 (Kd.R_base ho25) hb); have n3_ := Aside0.mk (Kd.R_lower (Kd.R_new' ho25 (Kd.R_lt zam11)) (below_size zam2)); have n4_ := Aside0.mk (blk_below (g := gb950) (o := .cells #[.int .i64 a0_0, .int .i64 a0_1, .slice A0_2 l0_2.length c0_2] 30 (0, 0)) zam3 hb); have n5_ := Aside0.mk (blk_below (g := gb951) (o := .cells #[.int .i64 a1_0, .int .i64 a1_1] 32 (0, 0)) zam4 hb); have n6_ := Aside0.mk (blk_below (g := gb958) (o := .cells #[.int .i64 a0_0, .int .i64 a0_1, .slice A0_2 l0_2.length c0_2, .int .i64 a1_0, .int .i64 a1_1, v953, v956] 84 (0, 0)) zam6 hb); have n7_ := Aside0.mk (below_step zam2 hb); have n8_ := Aside0.mk (show nb979_ ≤ w24.heap.size from zam5); clear HO954; clear HO957; clear HO963; clear BK950; clear BK951; clear BK958; clear HB; clear HNB979; have HO954 := n0_; have HO957 := n1_; have HO963 := n2_; have HO966 := n3_; have BK950 := n4_; have BK951 := n5_; have BK958 := n6_; have HB := n7_; have HNB979 := n8_; clear n0_ n1_ n2_ n3_ n4_ n5_ n6_ n7_ n8_; clear hb ho25)))
 go_loopg [13, 40] k (fun kq v13 v40 w' => ∃ (x13_1 : List Int) (x40_1 : Int), v40 = .int .i64 x40_1 ∧ Aside0 (impl_WalkOfSteps.l0 kq t961 x13_1 l3 (l3.length : Int) x40_1 a0_0 a0_1 l0_2 a0_0 a0_1 l0_2 a1_0 a1_1 t952 t955 = some (r1, r2)) ∧ Aside0 (kq ≤ k) ∧ Aside0 (Kd.S (Kd.slice 3 (Kd.int .i64)) 22 w' w.heap.size (fun k_ => some k_ ≠ (v13 : Value).ownBlock ∧ some k_ ≠ (v953 : Value).ownBlock ∧ some k_ ≠ (v956 : Value).ownBlock ∧ k_ ≠ (rngOut na979_ nb979_ k_)) v962 t961) ∧ Aside0 (Kd.R (Kd.int .i64) 3 w' w.heap.size (fun k_ => some k_ ≠ (v953 : Value).ownBlock) v13 x13_1) ∧ Aside0 (Kd.R (Kd.int .i64) 3 w' w.heap.size (fun k_ => some k_ ≠ (v13 : Value).ownBlock) v953 t952) ∧ Aside0 (Kd.S (Kd.slice 3 (Kd.int .i64)) 22 w' w.heap.size (fun k_ => some k_ ≠ (v962 : Value).ownBlock ∧ some k_ ≠ (v13 : Value).ownBlock ∧ some k_ ≠ (v953 : Value).ownBlock ∧ k_ ≠ (rngIn na979_ nb979_ k_)) v956 t955) ∧ Aside0 (w'.heap[gb950]? = some (.cells #[.int .i64 a0_0, .int .i64 a0_1, (.slice A0_2 l0_2.length c0_2)] 30 (0, 0))) ∧ Aside0 (w'.heap[gb951]? = some (.cells #[.int .i64 a1_0, .int .i64 a1_1] 32 (0, 0))) ∧ Aside0 (w'.heap[gb958]? = some (.cells #[.int .i64 a0_0, .int .i64 a0_1, (.slice A0_2 l0_2.length c0_2), .int .i64 a1_0, .int .i64 a1_1, v953, v956] 84 (0, 0))) ∧ Aside0 (nb979_ ≤ w'.heap.size) ∧ Aside0 (Below w.heap.size w w'))
 case atStart => exact ⟨(y964), (0), zam32, H', ⟨Nat.le_refl _⟩, ⟨by (with_reducible repeat (first | apply Kd.S_alloc | apply Kd.S_drewN | apply Kd.S_drew)); exact Kd.S_mono HO963.out (fun _ hk => ⟨hk.2, ⟨hk.1.1.2, ⟨hk.1.2, hk.1.1.1.2⟩⟩⟩)⟩, ⟨by (with_reducible repeat (first | apply Kd.R_alloc | apply Kd.R_drewN | apply Kd.R_drew)); exact Kd.R_mono HO966.out (fun _ hk => hk.2)⟩, ⟨by (with_reducible repeat (first | apply Kd.R_alloc | apply Kd.R_drewN | apply Kd.R_drew)); exact Kd.R_mono HO954.out (fun _ hk => hk.2)⟩, ⟨by (with_reducible repeat (first | apply Kd.S_alloc | apply Kd.S_drewN | apply Kd.S_drew)); exact Kd.S_mono HO957.out (fun _ hk => ⟨hk.1.2, ⟨hk.2, ⟨hk.1.1.1, hk.1.1.2⟩⟩⟩)⟩, ⟨zam3⟩, ⟨zam4⟩, ⟨zam6⟩, ⟨zam31⟩, ⟨zam2⟩⟩
 case round =>
  clear H'
  try clear c1; try clear c2; try clear p2; try clear c3; try clear c6; try clear c7; try clear c7b0; try clear c7b1; try clear c10; try clear c17; try clear c21; try clear hcz11_0; try clear hcz11_1; try clear hcz11_2; try clear hcz12_0; try clear hcz12_1; try clear hcz18_0; try clear hcz18_1; try clear hcz18_2; try clear hcz19_0; try clear hcz19_1; try clear hcz22_0; try clear hcz22_1; try clear hfz11_0; try clear hfz11_1; try clear hfz11_2; try clear hfz12_0; try clear hfz12_1; try clear hfz18_0; try clear hfz18_1; try clear hfz18_2; try clear hfz19_0; try clear hfz19_1; try clear hfz22_0; try clear hfz22_1
  obtain ⟨x13_1, x40_1, rfl, HA, HK1, HO_12, HO_13, HO_959005, HO_959006, BK950, BK951, BK958, HNB979, HB⟩ := hrel
  cases gk with
  | zero => exact absurd HA.out (by simp [impl_WalkOfSteps.l0])
  | succ k1 =>
   have H := HA.out
   clear HA
   simp only [impl_WalkOfSteps.l0] at H
   by_cases c26 : x40_1 < (l3.length : Int)
   rotate_left
   ·rw [if_neg c26] at H
    have c26b0 : decide (x40_1 < (l3.length : Int)) = false := decide_eq_false c26
    clear c26
    replace H := Option.bind_eq_some_iff.mp H
    obtain ⟨t967, A720, H⟩ := H
    replace H : (if t967 = true then (some (x13_1, true)) else (some (([] : List Int), false))) = some (r1, r2) := H
    have A72 := Aside0.mk A720
    clear A720
    by_cases c73 : t967 = true
    ·subst c73
     have H1 : (some (x13_1, true)) = some (r1, r2) := by rw [if_pos rfl] at H; exact H
     clear H
     have H := H1
     clear H1
     simp only [Option.some.injEq, Prod.mk.injEq] at H
     obtain ⟨rfl, rfl⟩ := H
     obtain ⟨Ao74, co74, eo74⟩ := Kd.R_slice HO_959005.out
     subst eo74
     obtain ⟨Ao75, co75, eo75⟩ := Kd.S_slice HO_959006.out
     subst eo75
     obtain ⟨Ao76, co76, eo76⟩ := Kd.R_slice HO_13.out
     subst eo76
     go_wp2_with (first | (go_at_call 67; (with_reducible refine (impl_graph_isWalk.calls k1 gb958 a0_0 a0_1 A0_2 c0_2 l0_2 a1_0 a1_1 Ao74 co74 t952 Ao75 co75 t955 _ _ x13_1 true _ ?side1 ?side2 ?side3 ?side4 ?side5 ?side6 ?side7 ?side8 ?side9 A72.out).mono ?_); (case side1 => exact zam6); (case side2 => exact zam7); (case side3 => exact HC0_2.out); (case side4 => exact zam15); (case side5 => exact (Kd.R_reads' HO_959005.out).2.1); (case side6 => exact zam14); (case side7 => exact (Kd.S_reads' HO_959006.out).2.1); (case side8 => exact zam16); (case side9 => exact (Kd.R_reads' HO_13.out).2.1); rintro e w77 ⟨rfl, hb⟩; have n0_ := Aside0.mk (Kd.S_below zam19 hb); have n1_ := Aside0.mk (Kd.R_below zam13 hb); have n2_ := Aside0.mk (Kd.R_below zam12 hb); have n3_ := Aside0.mk (Kd.S_below zam18 hb); have n4_ := Aside0.mk (blk_below (g := gb950) (o := .cells #[.int .i64 a0_0, .int .i64 a0_1, .slice A0_2 l0_2.length c0_2] 30 (0, 0)) zam3 hb); have n5_ := Aside0.mk (blk_below (g := gb951) (o := .cells #[.int .i64 a1_0, .int .i64 a1_1] 32 (0, 0)) zam4 hb); have n6_ := Aside0.mk (blk_below (g := gb958) (o := .cells #[.int .i64 a0_0, .int .i64 a0_1, .slice A0_2 l0_2.length c0_2, .int .i64 a1_0, .int .i64 a1_1, .slice Ao74 t952.length co74, .slice Ao75 t955.length co75] 84 (0, 0)) zam6 hb); have n7_ := Aside0.mk (below_step zam2 hb); have n8_ := Aside0.mk (show nb979_ ≤ w77.heap.size from zam5); clear HO_12; clear HO_13; clear HO_959005; clear HO_959006; clear BK950; clear BK951; clear BK958; clear HB; clear HNB979; have HO_12 := n0_; have HO_13 := n1_; have HO_959005 := n2_; have HO_959006 := n3_; have BK950 := n4_; have BK951 := n5_; have BK958 := n6_; have HB := n7_; have HNB979 := n8_; clear n0_ n1_ n2_ n3_ n4_ n5_ n6_ n7_ n8_; (try clear hb); (try clear hb2); (try clear hk); (try clear hi); (try clear hna_); (try clear hnb_)))
     repeat ((first | go_quiet (first | (go_at_call 67; (with_reducible refine (impl_graph_isWalk.calls k1 gb958 a0_0 a0_1 A0_2 c0_2 l0_2 a1_0 a1_1 Ao74 co74 t952 Ao75 co75 t955 _ _ x13_1 true _ ?side1 ?side2 ?side3 ?side4 ?side5 ?side6 ?side7 ?side8 ?side9 A72.out).mono ?_); (case side1 => exact zam6); (case side2 => exact zam7); (case side3 => exact HC0_2.out); (case side4 => exact zam15); (case side5 => exact (Kd.R_reads' HO_959005.out).2.1); (case side6 => exact zam14); (case side7 => exact (Kd.S_reads' HO_959006.out).2.1); (case side8 => exact zam16); (case side9 => exact (Kd.R_reads' HO_13.out).2.1); rintro e w77 ⟨rfl, hb⟩; have n0_ := Aside0.mk (Kd.S_below zam19 hb); have n1_ := Aside0.mk (Kd.R_below zam13 hb); have n2_ := Aside0.mk (Kd.R_below zam12 hb); have n3_ := Aside0.mk (Kd.S_below zam18 hb); have n4_ := Aside0.mk (blk_below (g := gb950) (o := .cells #[.int .i64 a0_0, .int .i64 a0_1, .slice A0_2 l0_2.length c0_2] 30 (0, 0)) zam3 hb); have n5_ := Aside0.mk (blk_below (g := gb951) (o := .cells #[.int .i64 a1_0, .int .i64 a1_1] 32 (0, 0)) zam4 hb); have n6_ := Aside0.mk (blk_below (g := gb958) (o := .cells #[.int .i64 a0_0, .int .i64 a0_1, .slice A0_2 l0_2.length c0_2, .int .i64 a1_0, .int .i64 a1_1, .slice Ao74 t952.length co74, .slice Ao75 t955.length co75] 84 (0, 0)) zam6 hb); have n7_ := Aside0.mk (below_step zam2 hb); have n8_ := Aside0.mk (show nb979_ ≤ w77.heap.size from zam5); clear HO_12; clear HO_13; clear HO_959005; clear HO_959006; clear BK950; clear BK951; clear BK958; clear HB; clear HNB979; have HO_12 := n0_; have HO_13 := n1_; have HO_959005 := n2_; have HO_959006 := n3_; have BK950 := n4_; have BK951 := n5_; have BK958 := n6_; have HB := n7_; have HNB979 := n8_; clear n0_ n1_ n2_ n3_ n4_ n5_ n6_ n7_ n8_; (try clear hb); (try clear hb2); (try clear hk); (try clear hi); (try clear hna_); (try clear hnb_))) | (refine wp_region_quiet_lit (by kernel_rfl) (by kernel_rfl) ?_; (repeat (any_goals (first | go_big_quiet_step (first | (go_at_call 67; (with_reducible refine (impl_graph_isWalk.calls k1 gb958 a0_0 a0_1 A0_2 c0_2 l0_2 a1_0 a1_1 Ao74 co74 t952 Ao75 co75 t955 _ _ x13_1 true _ ?side1 ?side2 ?side3 ?side4 ?side5 ?side6 ?side7 ?side8 ?side9 A72.out).mono ?_); (case side1 => exact zam6); (case side2 => exact zam7); (case side3 => exact HC0_2.out); (case side4 => exact zam15); (case side5 => exact (Kd.R_reads' HO_959005.out).2.1); (case side6 => exact zam14); (case side7 => exact (Kd.S_reads' HO_959006.out).2.1); (case side8 => exact zam16); (case side9 => exact (Kd.R_reads' HO_13.out).2.1); rintro e w77 ⟨rfl, hb⟩; have n0_ := Aside0.mk (Kd.S_below zam19 hb); have n1_ := Aside0.mk (Kd.R_below zam13 hb); have n2_ := Aside0.mk (Kd.R_below zam12 hb); have n3_ := Aside0.mk (Kd.S_below zam18 hb); have n4_ := Aside0.mk (blk_below (g := gb950) (o := .cells #[.int .i64 a0_0, .int .i64 a0_1, .slice A0_2 l0_2.length c0_2] 30 (0, 0)) zam3 hb); have n5_ := Aside0.mk (blk_below (g := gb951) (o := .cells #[.int .i64 a1_0, .int .i64 a1_1] 32 (0, 0)) zam4 hb); have n6_ := Aside0.mk (blk_below (g := gb958) (o := .cells #[.int .i64 a0_0, .int .i64 a0_1, .slice A0_2 l0_2.length c0_2, .int .i64 a1_0, .int .i64 a1_1, .slice Ao74 t952.length co74, .slice Ao75 t955.length co75] 84 (0, 0)) zam6 hb); have n7_ := Aside0.mk (below_step zam2 hb); have n8_ := Aside0.mk (show nb979_ ≤ w77.heap.size from zam5); clear HO_12; clear HO_13; clear HO_959005; clear HO_959006; clear BK950; clear BK951; clear BK958; clear HB; clear HNB979; have HO_12 := n0_; have HO_13 := n1_; have HO_959005 := n2_; have HO_959006 := n3_; have BK950 := n4_; have BK951 := n5_; have BK958 := n6_; have HB := n7_; have HNB979 := n8_; clear n0_ n1_ n2_ n3_ n4_ n5_ n6_ n7_ n8_; (try clear hb); (try clear hb2); (try clear hk); (try clear hi); (try clear hna_); (try clear hnb_))) | quiet_step (first | (go_at_call 67; (with_reducible refine (impl_graph_isWalk.calls k1 gb958 a0_0 a0_1 A0_2 c0_2 l0_2 a1_0 a1_1 Ao74 co74 t952 Ao75 co75 t955 _ _ x13_1 true _ ?side1 ?side2 ?side3 ?side4 ?side5 ?side6 ?side7 ?side8 ?side9 A72.out).mono ?_); (case side1 => exact zam6); (case side2 => exact zam7); (case side3 => exact HC0_2.out); (case side4 => exact zam15); (case side5 => exact (Kd.R_reads' HO_959005.out).2.1); (case side6 => exact zam14); (case side7 => exact (Kd.S_reads' HO_959006.out).2.1); (case side8 => exact zam16); (case side9 => exact (Kd.R_reads' HO_13.out).2.1); rintro e w77 ⟨rfl, hb⟩; have n0_ := Aside0.mk (Kd.S_below zam19 hb); have n1_ := Aside0.mk (Kd.R_below zam13 hb); have n2_ := Aside0.mk (Kd.R_below zam12 hb); have n3_ := Aside0.mk (Kd.S_below zam18 hb); have n4_ := Aside0.mk (blk_below (g := gb950) (o := .cells #[.int .i64 a0_0, .int .i64 a0_1, .slice A0_2 l0_2.length c0_2] 30 (0, 0)) zam3 hb); have n5_ := Aside0.mk (blk_below (g := gb951) (o := .cells #[.int .i64 a1_0, .int .i64 a1_1] 32 (0, 0)) zam4 hb); have n6_ := Aside0.mk (blk_below (g := gb958) (o := .cells #[.int .i64 a0_0, .int .i64 a0_1, .slice A0_2 l0_2.length c0_2, .int .i64 a1_0, .int .i64 a1_1, .slice Ao74 t952.length co74, .slice Ao75 t955.length co75] 84 (0, 0)) zam6 hb); have n7_ := Aside0.mk (below_step zam2 hb); have n8_ := Aside0.mk (show nb979_ ≤ w77.heap.size from zam5); clear HO_12; clear HO_13; clear HO_959005; clear HO_959006; clear BK950; clear BK951; clear BK958; clear HB; clear HNB979; have HO_12 := n0_; have HO_13 := n1_; have HO_959005 := n2_; have HO_959006 := n3_; have BK950 := n4_; have BK951 := n5_; have BK958 := n6_; have HB := n7_; have HNB979 := n8_; clear n0_ n1_ n2_ n3_ n4_ n5_ n6_ n7_ n8_; (try clear hb); (try clear hb2); (try clear hk); (try clear hi); (try clear hna_); (try clear hnb_)))))); all_goals (refine wpQuiet_nil ?_; intro _ hw2_; obtain ⟨nq, hw3_⟩ := hw2_; subst hw3_))); try go_wp2_with (first | (go_at_call 67; (with_reducible refine (impl_graph_isWalk.calls k1 gb958 a0_0 a0_1 A0_2 c0_2 l0_2 a1_0 a1_1 Ao74 co74 t952 Ao75 co75 t955 _ _ x13_1 true _ ?side1 ?side2 ?side3 ?side4 ?side5 ?side6 ?side7 ?side8 ?side9 A72.out).mono ?_); (case side1 => exact zam6); (case side2 => exact zam7); (case side3 => exact HC0_2.out); (case side4 => exact zam15); (case side5 => exact (Kd.R_reads' HO_959005.out).2.1); (case side6 => exact zam14); (case side7 => exact (Kd.S_reads' HO_959006.out).2.1); (case side8 => exact zam16); (case side9 => exact (Kd.R_reads' HO_13.out).2.1); rintro e w77 ⟨rfl, hb⟩; have n0_ := Aside0.mk (Kd.S_below zam19 hb); have n1_ := Aside0.mk (Kd.R_below zam13 hb); have n2_ := Aside0.mk (Kd.R_below zam12 hb); have n3_ := Aside0.mk (Kd.S_below zam18 hb); have n4_ := Aside0.mk (blk_below (g := gb950) (o := .cells #[.int .i64 a0_0, .int .i64 a0_1, .slice A0_2 l0_2.length c0_2] 30 (0, 0)) zam3 hb); have n5_ := Aside0.mk (blk_below (g := gb951) (o := .cells #[.int .i64 a1_0, .int .i64 a1_1] 32 (0, 0)) zam4 hb); have n6_ := Aside0.mk (blk_below (g := gb958) (o := .cells #[.int .i64 a0_0, .int .i64 a0_1, .slice A0_2 l0_2.length c0_2, .int .i64 a1_0, .int .i64 a1_1, .slice Ao74 t952.length co74, .slice Ao75 t955.length co75] 84 (0, 0)) zam6 hb); have n7_ := Aside0.mk (below_step zam2 hb); have n8_ := Aside0.mk (show nb979_ ≤ w77.heap.size from zam5); clear HO_12; clear HO_13; clear HO_959005; clear HO_959006; clear BK950; clear BK951; clear BK958; clear HB; clear HNB979; have HO_12 := n0_; have HO_13 := n1_; have HO_959005 := n2_; have HO_959006 := n3_; have BK950 := n4_; have BK951 := n5_; have BK958 := n6_; have HB := n7_; have HNB979 := n8_; clear n0_ n1_ n2_ n3_ n4_ n5_ n6_ n7_ n8_; (try clear hb); (try clear hb2); (try clear hk); (try clear hi); (try clear hna_); (try clear hnb_))))
     go_ret2
     exact ⟨_, zam30, by (with_reducible repeat (first | apply Kd.R_alloc | apply Kd.R_drewN | apply Kd.R_drew)); exact Kd.R_mono HO_13.out (fun _ hk => trivial), zam2⟩
    replace c73 := Bool.eq_false_iff.mpr c73
    subst c73
    have H1 : (some (([] : List Int), false)) = some (r1, r2) := by rw [if_neg (show ¬ (false = true) by decide)] at H; exact H
    clear H
    have H := H1
    clear H1
    simp only [Option.some.injEq, Prod.mk.injEq] at H
    obtain ⟨rfl, rfl⟩ := H
    obtain ⟨Ao78, co78, eo78⟩ := Kd.R_slice HO_959005.out
    subst eo78
    obtain ⟨Ao79, co79, eo79⟩ := Kd.S_slice HO_959006.out
    subst eo79
    obtain ⟨Ao80, co80, eo80⟩ := Kd.R_slice HO_13.out
    subst eo80
    go_wp2_with (first | (go_at_call 67; (with_reducible refine (impl_graph_isWalk.calls k1 gb958 a0_0 a0_1 A0_2 c0_2 l0_2 a1_0 a1_1 Ao78 co78 t952 Ao79 co79 t955 _ _ x13_1 false _ ?side1 ?side2 ?side3 ?side4 ?side5 ?side6 ?side7 ?side8 ?side9 A72.out).mono ?_); (case side1 => exact zam6); (case side2 => exact zam7); (case side3 => exact HC0_2.out); (case side4 => exact zam15); (case side5 => exact (Kd.R_reads' HO_959005.out).2.1); (case side6 => exact zam14); (case side7 => exact (Kd.S_reads' HO_959006.out).2.1); (case side8 => exact zam16); (case side9 => exact (Kd.R_reads' HO_13.out).2.1); rintro e w81 ⟨rfl, hb⟩; have n0_ := Aside0.mk (Kd.S_below zam19 hb); have n1_ := Aside0.mk (Kd.R_below zam13 hb); have n2_ := Aside0.mk (Kd.R_below zam12 hb); have n3_ := Aside0.mk (Kd.S_below zam18 hb); have n4_ := Aside0.mk (blk_below (g := gb950) (o := .cells #[.int .i64 a0_0, .int .i64 a0_1, .slice A0_2 l0_2.length c0_2] 30 (0, 0)) zam3 hb); have n5_ := Aside0.mk (blk_below (g := gb951) (o := .cells #[.int .i64 a1_0, .int .i64 a1_1] 32 (0, 0)) zam4 hb); have n6_ := Aside0.mk (blk_below (g := gb958) (o := .cells #[.int .i64 a0_0, .int .i64 a0_1, .slice A0_2 l0_2.length c0_2, .int .i64 a1_0, .int .i64 a1_1, .slice Ao78 t952.length co78, .slice Ao79 t955.length co79] 84 (0, 0)) zam6 hb); have n7_ := Aside0.mk (below_step zam2 hb); have n8_ := Aside0.mk (show nb979_ ≤ w81.heap.size from zam5); clear HO_12; clear HO_13; clear HO_959005; clear HO_959006; clear BK950; clear BK951; clear BK958; clear HB; clear HNB979; have HO_12 := n0_; have HO_13 := n1_; have HO_959005 := n2_; have HO_959006 := n3_; have BK950 := n4_; have BK951 := n5_; have BK958 := n6_; have HB := n7_; have HNB979 := n8_; clear n0_ n1_ n2_ n3_ n4_ n5_ n6_ n7_ n8_; (try clear hb); (try clear hb2); (try clear hk); (try clear hi); (try clear hna_); (try clear hnb_)))
    repeat ((first | go_quiet (first | (go_at_call 67; (with_reducible refine (impl_graph_isWalk.calls k1 gb958 a0_0 a0_1 A0_2 c0_2 l0_2 a1_0 a1_1 Ao78 co78 t952 Ao79 co79 t955 _ _ x13_1 false _ ?side1 ?side2 ?side3 ?side4 ?side5 ?side6 ?side7 ?side8 ?side9 A72.out).mono ?_); (case side1 => exact zam6); (case side2 => exact zam7); (case side3 => exact HC0_2.out); (case side4 => exact zam15); (case side5 => exact (Kd.R_reads' HO_959005.out).2.1); (case side6 => exact zam14); (case side7 => exact (Kd.S_reads' HO_959006.out).2.1); (case side8 => exact zam16); (case side9 => exact (Kd.R_reads' HO_13.out).2.1); rintro e w81 ⟨rfl, hb⟩; have n0_ := Aside0.mk (Kd.S_below zam19 hb); have n1_ := Aside0.mk (Kd.R_below zam13 hb); have n2_ := Aside0.mk (Kd.R_below zam12 hb); have n3_ := Aside0.mk (Kd.S_below zam18 hb); have n4_ := Aside0.mk (blk_below (g := gb950) (o := .cells #[.int .i64 a0_0, .int .i64 a0_1, .slice A0_2 l0_2.length c0_2] 30 (0, 0)) zam3 hb); have n5_ := Aside0.mk (blk_below (g := gb951) (o := .cells #[.int .i64 a1_0, .int .i64 a1_1] 32 (0, 0)) zam4 hb); have n6_ := Aside0.mk (blk_below (g := gb958) (o := .cells #[.int .i64 a0_0, .int .i64 a0_1, .slice A0_2 l0_2.length c0_2, .int .i64 a1_0, .int .i64 a1_1, .slice Ao78 t952.length co78, .slice Ao79 t955.length co79] 84 (0, 0)) zam6 hb); have n7_ := Aside0.mk (below_step zam2 hb); have n8_ := Aside0.mk (show nb979_ ≤ w81.heap.size from zam5); clear HO_12; clear HO_13; clear HO_959005; clear HO_959006; clear BK950; clear BK951; clear BK958; clear HB; clear HNB979; have HO_12 := n0_; have HO_13 := n1_; have HO_959005 := n2_; have HO_959006 := n3_; have BK950 := n4_; have BK951 := n5_; have BK958 := n6_; have HB := n7_; have HNB979 := n8_; clear n0_ n1_ n2_ n3_ n4_ n5_ n6_ n7_ n8_; (try clear hb); (try clear hb2); (try clear hk); (try clear hi); (try clear hna_); (try clear hnb_))) | (refine wp_region_quiet_lit (by kernel_rfl) (by kernel_rfl) ?_; (repeat (any_goals (first | go_big_quiet_step (first | (go_at_call 67; (with_reducible refine (impl_graph_isWalk.calls k1 gb958 a0_0 a0_1 A0_2 c0_2 l0_2 a1_0 a1_1 Ao78 co78 t952 Ao79 co79 t955 _ _ x13_1 false _ ?side1 ?side2 ?side3 ?side4 ?side5 ?side6 ?side7 ?side8 ?side9 A72.out).mono ?_); (case side1 => exact zam6); (case side2 => exact zam7); (case side3 => exact HC0_2.out); (case side4 => exact zam15); (case side5 => exact (Kd.R_reads' HO_959005.out).2.1); (case side6 => exact zam14); (case side7 => exact (Kd.S_reads' HO_959006.out).2.1); (case side8 => exact zam16); (case side9 => exact (Kd.R_reads' HO_13.out).2.1); rintro e w81 ⟨rfl, hb⟩; have n0_ := Aside0.mk (Kd.S_below zam19 hb); have n1_ := Aside0.mk (Kd.R_below zam13 hb); have n2_ := Aside0.mk (Kd.R_below zam12 hb); have n3_ := Aside0.mk (Kd.S_below zam18 hb); have n4_ := Aside0.mk (blk_below (g := gb950) (o := .cells #[.int .i64 a0_0, .int .i64 a0_1, .slice A0_2 l0_2.length c0_2] 30 (0, 0)) zam3 hb); have n5_ := Aside0.mk (blk_below (g := gb951) (o := .cells #[.int .i64 a1_0, .int .i64 a1_1] 32 (0, 0)) zam4 hb); have n6_ := Aside0.mk (blk_below (g := gb958) (o := .cells #[.int .i64 a0_0, .int .i64 a0_1, .slice A0_2 l0_2.length c0_2, .int .i64 a1_0, .int .i64 a1_1, .slice Ao78 t952.length co78, .slice Ao79 t955.length co79] 84 (0, 0)) zam6 hb); have n7_ := Aside0.mk (below_step zam2 hb); have n8_ := Aside0.mk (show nb979_ ≤ w81.heap.size from zam5); clear HO_12; clear HO_13; clear HO_959005; clear HO_959006; clear BK950; clear BK951; clear BK958; clear HB; clear HNB979; have HO_12 := n0_; have HO_13 := n1_; have HO_959005 := n2_; have HO_959006 := n3_; have BK950 := n4_; have BK951 := n5_; have BK958 := n6_; have HB := n7_; have HNB979 := n8_; clear n0_ n1_ n2_ n3_ n4_ n5_ n6_ n7_ n8_; (try clear hb); (try clear hb2); (try clear hk); (try clear hi); (try clear hna_); (try clear hnb_))) | quiet_step (first | (go_at_call 67; (with_reducible refine (impl_graph_isWalk.calls k1 gb958 a0_0 a0_1 A0_2 c0_2 l0_2 a1_0 a1_1 Ao78 co78 t952 Ao79 co79 t955 _ _ x13_1 false _ ?side1 ?side2 ?side3 ?side4 ?side5 ?side6 ?side7 ?side8 ?side9 A72.out).mono ?_); (case side1 => exact zam6); (case side2 => exact zam7); (case side3 => exact HC0_2.out); (case side4 => exact zam15); (case side5 => exact (Kd.R_reads' HO_959005.out).2.1); (case side6 => exact zam14); (case side7 => exact (Kd.S_reads' HO_959006.out).2.1); (case side8 => exact zam16); (case side9 => exact (Kd.R_reads' HO_13.out).2.1); rintro e w81 ⟨rfl, hb⟩; have n0_ := Aside0.mk (Kd.S_below zam19 hb); have n1_ := Aside0.mk (Kd.R_below zam13 hb); have n2_ := Aside0.mk (Kd.R_below zam12 hb); have n3_ := Aside0.mk (Kd.S_below zam18 hb); have n4_ := Aside0.mk (blk_below (g := gb950) (o := .cells #[.int .i64 a0_0, .int .i64 a0_1, .slice A0_2 l0_2.length c0_2] 30 (0, 0)) zam3 hb); have n5_ := Aside0.mk (blk_below (g := gb951) (o := .cells #[.int .i64 a1_0, .int .i64 a1_1] 32 (0, 0)) zam4 hb); have n6_ := Aside0.mk (blk_below (g := gb958) (o := .cells #[.int .i64 a0_0, .int .i64 a0_1, .slice A0_2 l0_2.length c0_2, .int .i64 a1_0, .int .i64 a1_1, .slice Ao78 t952.length co78, .slice Ao79 t955.length co79] 84 (0, 0)) zam6 hb); have n7_ := Aside0.mk (below_step zam2 hb); have n8_ := Aside0.mk (show nb979_ ≤ w81.heap.size from zam5); clear HO_12; clear HO_13; clear HO_959005; clear HO_959006; clear BK950; clear BK951; clear BK958; clear HB; clear HNB979; have HO_12 := n0_; have HO_13 := n1_; have HO_959005 := n2_; have HO_959006 := n3_; have BK950 := n4_; have BK951 := n5_; have BK958 := n6_; have HB := n7_; have HNB979 := n8_; clear n0_ n1_ n2_ n3_ n4_ n5_ n6_ n7_ n8_; (try clear hb); (try clear hb2); (try clear hk); (try clear hi); (try clear hna_); (try clear hnb_)))))); all_goals (refine wpQuiet_nil ?_; intro _ hw2_; obtain ⟨nq, hw3_⟩ := hw2_; subst hw3_))); try go_wp2_with (first | (go_at_call 67; (with_reducible refine (impl_graph_isWalk.calls k1 gb958 a0_0 a0_1 A0_2 c0_2 l0_2 a1_0 a1_1 Ao78 co78 t952 Ao79 co79 t955 _ _ x13_1 false _ ?side1 ?side2 ?side3 ?side4 ?side5 ?side6 ?side7 ?side8 ?side9 A72.out).mono ?_); (case side1 => exact zam6); (case side2 => exact zam7); (case side3 => exact HC0_2.out); (case side4 => exact zam15); (case side5 => exact (Kd.R_reads' HO_959005.out).2.1); (case side6 => exact zam14); (case side7 => exact (Kd.S_reads' HO_959006.out).2.1); (case side8 => exact zam16); (case side9 => exact (Kd.R_reads' HO_13.out).2.1); rintro e w81 ⟨rfl, hb⟩; have n0_ := Aside0.mk (Kd.S_below zam19 hb); have n1_ := Aside0.mk (Kd.R_below zam13 hb); have n2_ := Aside0.mk (Kd.R_below zam12 hb); have n3_ := Aside0.mk (Kd.S_below zam18 hb); have n4_ := Aside0.mk (blk_below (g := gb950) (o := .cells #[.int .i64 a0_0, .int .i64 a0_1, .slice A0_2 l0_2.length c0_2] 30 (0, 0)) zam3 hb); have n5_ := Aside0.mk (blk_below (g := gb951) (o := .cells #[.int .i64 a1_0, .int .i64 a1_1] 32 (0, 0)) zam4 hb); have n6_ := Aside0.mk (blk_below (g := gb958) (o := .cells #[.int .i64 a0_0, .int .i64 a0_1, .slice A0_2 l0_2.length c0_2, .int .i64 a1_0, .int .i64 a1_1, .slice Ao78 t952.length co78, .slice Ao79 t955.length co79] 84 (0, 0)) zam6 hb); have n7_ := Aside0.mk (below_step zam2 hb); have n8_ := Aside0.mk (show nb979_ ≤ w81.heap.size from zam5); clear HO_12; clear HO_13; clear HO_959005; clear HO_959006; clear BK950; clear BK951; clear BK958; clear HB; clear HNB979; have HO_12 := n0_; have HO_13 := n1_; have HO_959005 := n2_; have HO_959006 := n3_; have BK950 := n4_; have BK951 := n5_; have BK958 := n6_; have HB := n7_; have HNB979 := n8_; clear n0_ n1_ n2_ n3_ n4_ n5_ n6_ n7_ n8_; (try clear hb); (try clear hb2); (try clear hk); (try clear hi); (try clear hna_); (try clear hnb_))))
    go_ret2
    exact ⟨_, zam30, zam20, zam2⟩
   rw [if_pos c26] at H
   have c26b0 : decide (x40_1 < (l3.length : Int)) = true := decide_eq_true c26
   clear c26
   by_cases c27 : 0 ≤ x40_1
   rotate_left
   ·rw [if_neg c27] at H
    exact absurd H (by simp)
   rw [if_pos c27] at H
   have c27b0 : decide (0 ≤ x40_1) = true := decide_eq_true c27
   clear c27
   by_cases c28 : x40_1 < (l3.length : Int)
   rotate_left
   ·rw [if_neg c28] at H
    exact absurd H (by simp)
   rw [if_pos c28] at H
   have c28b0 : decide (x40_1 < (l3.length : Int)) = true := decide_eq_true c28
   clear c28
   have HC29 := Aside0.mk H
   clear H
   have p968 : 0 ≤ (x40_1 : Int) := of_decide_eq_true zam9
   have q968 : x40_1 < (l3.length : Int) := of_decide_eq_true zam9
   obtain ⟨ad968, e968, hx968_0⟩ := Kd.at_int HR3.out x40_1 p968 q968
   cases e968
   (first | replace hx968_0 := (HB.out.cell (World.block_lt_of_cell? w _ hx968_0)).trans hx968_0 | skip)
   replace p968 := eq_true p968
   replace q968 := eq_true q968
   go_upto_region 9 with (fail)
   repeat ((first | go_quiet (fail) | (refine wp_region_quiet_lit (by kernel_rfl) (by kernel_rfl) ?_; (repeat (any_goals (first | go_big_quiet_step (fail) | quiet_step (fail)))); all_goals (refine wpQuiet_nil ?_; intro _ hw2_; obtain ⟨nq, hw3_⟩ := hw2_; subst hw3_))); go_upto_region 9 with (fail))
   go_cut [51] (fun v51 wc => ∃ (kq : Nat) (x51_28 : Bool), v51 = .bool x51_28 ∧ Aside0 (impl_WalkOfSteps.j1 kq t961 x13_1 (rd l3 x40_1) l3 (l3.length : Int) x40_1 x51_28 a0_0 a0_1 l0_2 a0_0 a0_1 l0_2 a1_0 a1_1 t952 t955 = some (r1, r2)) ∧ Aside0 (kq ≤ k1) ∧ Aside0 (Kd.S (Kd.slice 3 (Kd.int .i64)) 22 wc w.heap.size (fun k_ => some k_ ≠ (u13 : Value).ownBlock ∧ some k_ ≠ (v953 : Value).ownBlock ∧ some k_ ≠ (v956 : Value).ownBlock ∧ k_ ≠ (rngOut na979_ nb979_ k_)) v962 t961) ∧ Aside0 (Kd.R (Kd.int .i64) 3 wc w.heap.size (fun k_ => some k_ ≠ (v953 : Value).ownBlock) u13 x13_1) ∧ Aside0 (Kd.R (Kd.int .i64) 3 wc w.heap.size (fun k_ => some k_ ≠ (u13 : Value).ownBlock) v953 t952) ∧ Aside0 (Kd.S (Kd.slice 3 (Kd.int .i64)) 22 wc w.heap.size (fun k_ => some k_ ≠ (v962 : Value).ownBlock ∧ some k_ ≠ (u13 : Value).ownBlock ∧ some k_ ≠ (v953 : Value).ownBlock ∧ k_ ≠ (rngIn na979_ nb979_ k_)) v956 t955) ∧ Aside0 (wc.heap[gb950]? = some (.cells #[.int .i64 a0_0, .int .i64 a0_1, (.slice A0_2 l0_2.length c0_2)] 30 (0, 0))) ∧ Aside0 (wc.heap[gb951]? = some (.cells #[.int .i64 a1_0, .int .i64 a1_1] 32 (0, 0))) ∧ Aside0 (wc.heap[gb958]? = some (.cells #[.int .i64 a0_0, .int .i64 a0_1, (.slice A0_2 l0_2.length c0_2), .int .i64 a1_0, .int .i64 a1_1, v953, v956] 84 (0, 0))) ∧ Aside0 (nb979_ ≤ wc.heap.size) ∧ Aside0 (Below w.heap.size w wc))
   case first =>
    have H := HC29.out
    clear HC29
    by_cases c30 : (rd l3 x40_1) < 0
    ·rw [if_pos c30] at H
     have c30b0 : decide ((rd l3 x40_1) < 0) = true := decide_eq_true c30
     clear c30
     (first | rw [c30b0] | (simp only [i64_w, i32_w]; rw [c30b0]) | skip)
     have H' := Aside0.mk H
     clear H
     go_wp2
     repeat ((first | go_quiet (fail) | (refine wp_region_quiet_lit (by kernel_rfl) (by kernel_rfl) ?_; (repeat (any_goals (first | go_big_quiet_step (fail) | quiet_step (fail)))); all_goals (refine wpQuiet_nil ?_; intro _ hw2_; obtain ⟨nq, hw3_⟩ := hw2_; subst hw3_))); try go_wp2)
     go_meet
     case rel => exact ⟨_, (true), zam32, H', ⟨by have := HK1.out; first | omega | exact Nat.le_refl _⟩, ⟨zam19⟩, ⟨zam13⟩, ⟨zam12⟩, ⟨zam18⟩, ⟨zam3⟩, ⟨zam4⟩, ⟨zam6⟩, ⟨zam31⟩, ⟨zam2⟩⟩
    rw [if_neg c30] at H
    have c30b0 : decide ((rd l3 x40_1) < 0) = false := decide_eq_false c30
    clear c30
    (first | rw [c30b0] | (simp only [i64_w, i32_w]; rw [c30b0]) | skip)
    have H' := Aside0.mk H
    clear H
    obtain ⟨Ao31, co31, eo31⟩ := Kd.S_slice HO_12.out
    subst eo31
    go_wp2
    repeat ((first | go_quiet (fail) | (refine wp_region_quiet_lit (by kernel_rfl) (by kernel_rfl) ?_; (repeat (any_goals (first | go_big_quiet_step (fail) | quiet_step (fail)))); all_goals (refine wpQuiet_nil ?_; intro _ hw2_; obtain ⟨nq, hw3_⟩ := hw2_; subst hw3_))); try go_wp2)
    go_meet
    case rel => exact ⟨_, (decide ((rd l3 x40_1) ≥ (t961.length : Int))), zam32, H', ⟨by have := HK1.out; first | omega | exact Nat.le_refl _⟩, ⟨zam19⟩, ⟨zam13⟩, ⟨zam12⟩, ⟨zam18⟩, ⟨zam3⟩, ⟨zam4⟩, ⟨zam6⟩, ⟨zam31⟩, ⟨zam2⟩⟩
   case rest =>
    clear HC29
    try clear c1; try clear c2; try clear p2; try clear c3; try clear c6; try clear c7; try clear c7b0; try clear c7b1; try clear p9; try clear q9; try clear hx9; try clear c10; try clear c17; try clear c21; try clear c26; try clear c26b0; try clear c27; try clear c27b0; try clear c28; try clear c28b0; try clear c30; try clear c30b0; try clear hcz11_0; try clear hcz11_1; try clear hcz11_2; try clear hcz12_0; try clear hcz12_1; try clear hcz18_0; try clear hcz18_1; try clear hcz18_2; try clear hcz19_0; try clear hcz19_1; try clear hcz22_0; try clear hcz22_1; try clear hfz11_0; try clear hfz11_1; try clear hfz11_2
    try clear hfz12_0; try clear hfz12_1; try clear hfz18_0; try clear hfz18_1; try clear hfz18_2; try clear hfz19_0; try clear hfz19_1; try clear hfz22_0; try clear hfz22_1; try clear hx968_0; try clear p2; try clear p968; try clear q968
    obtain ⟨kq, x51_28, rfl, HA, HJ28, HO_12, HO_13, HO_959005, HO_959006, BK950, BK951, BK958, HNB979, HB⟩ := hcut
    cases kq with
    | zero => exact absurd HA.out (by simp [impl_WalkOfSteps.j1])
    | succ kj28 =>
     have H := HA.out
     clear HA
     simp only [impl_WalkOfSteps.j1] at H
     by_cases c32 : x51_28 = true
     ·subst c32
      have H1 : (some (([] : List Int), false)) = some (r1, r2) := by rw [if_pos rfl] at H; exact H
      clear H
      have H := H1
      clear H1
      simp only [Option.some.injEq, Prod.mk.injEq] at H
      obtain ⟨rfl, rfl⟩ := H
      go_wp2
      repeat ((first | go_quiet (fail) | (refine wp_region_quiet_lit (by kernel_rfl) (by kernel_rfl) ?_; (repeat (any_goals (first | go_big_quiet_step (fail) | quiet_step (fail)))); all_goals (refine wpQuiet_nil ?_; intro _ hw2_; obtain ⟨nq, hw3_⟩ := hw2_; subst hw3_))); try go_wp2)
      go_ret2
      exact ⟨_, zam30, zam20, zam2⟩
     replace c32 := Bool.eq_false_iff.mpr c32
     subst c32
     have H1 : (if 0 ≤ (wrap64 ((x13_1.length : Int) - 1)) then (if (wrap64 ((x13_1.length : Int) - 1)) < (x13_1.length : Int) then (if a0_0 = 0 then (none) else (if 0 ≤ (rd l3 x40_1) then (if (rd l3 x40_1) < (t961.length : Int) then (if 0 < ((rd_L1 t961 (rd l3 x40_1)).length : Int) then (if 1 < ((rd_L1 t961 (rd l3 x40_1)).length : Int) then (if (wrap64 ((Int.tmod (rd x13_1 (wrap64 ((x13_1.length : Int) - 1))) a0_0) + (rd (rd_L1 t961 (rd l3 x40_1)) 0))) < 0 then (some (([] : List Int), false)) else (if (wrap64 ((Int.tmod (rd x13_1 (wrap64 ((x13_1.length : Int) - 1))) a0_0) + (rd (rd_L1 t961 (rd l3 x40_1)) 0))) ≥ a0_0 then (some (([] : List Int), false)) else (if (wrap64 ((wrap64 (Int.tdiv (rd x13_1 (wrap64 ((x13_1.length : Int) - 1))) a0_0)) + (rd (rd_L1 t961 (rd l3 x40_1)) 1))) < 0 then (some (([] : List Int), false)) else (if (wrap64 ((wrap64 (Int.tdiv (rd x13_1 (wrap64 ((x13_1.length : Int) - 1))) a0_0)) + (rd (rd_L1 t961 (rd l3 x40_1)) 1))) ≥ a0_1 then (some (([] : List Int), false)) else (if x13_1.length < 17592186044416 then (impl_WalkOfSteps.l0 kj28 t961 (x13_1 ++ [wrap64 ((wrap64 ((wrap64 ((wrap64 (Int.tdiv (rd x13_1 (wrap64 ((x13_1.length : Int) - 1))) a0_0)) + (rd (rd_L1 t961 (rd l3 x40_1)) 1))) * a0_0)) + (wrap64 ((Int.tmod (rd x13_1 (wrap64 ((x13_1.length : Int) - 1))) a0_0) + (rd (rd_L1 t961 (rd l3 x40_1)) 0))))]) l3 (l3.length : Int) (wrap64 (x40_1 + 1)) a0_0 a0_1 l0_2 a0_0 a0_1 l0_2 a1_0 a1_1 t952 t955) else (none)))))) else (none)) else (none)) else (none)) else (none))) else (none)) else (none)) = some (r1, r2) := by rw [if_neg (show ¬ (false = true) by decide)] at H; exact H
     clear H
     have H := H1
     clear H1
     obtain ⟨ji33, hji33⟩ : ∃ j_ : Int, (wrap64 ((x13_1.length : Int) - 1)) = j_ := ⟨_, rfl⟩
     replace H : (if 0 ≤ (ji33) then (if (ji33) < (x13_1.length : Int) then (if a0_0 = 0 then (none) else (if 0 ≤ (rd l3 x40_1) then (if (rd l3 x40_1) < (t961.length : Int) then (if 0 < ((rd_L1 t961 (rd l3 x40_1)).length : Int) then (if 1 < ((rd_L1 t961 (rd l3 x40_1)).length : Int) then (if (wrap64 ((Int.tmod (rd x13_1 (ji33)) a0_0) + (rd (rd_L1 t961 (rd l3 x40_1)) 0))) < 0 then (some (([] : List Int), false)) else (if (wrap64 ((Int.tmod (rd x13_1 (ji33)) a0_0) + (rd (rd_L1 t961 (rd l3 x40_1)) 0))) ≥ a0_0 then (some (([] : List Int), false)) else (if (wrap64 ((wrap64 (Int.tdiv (rd x13_1 (ji33)) a0_0)) + (rd (rd_L1 t961 (rd l3 x40_1)) 1))) < 0 then (some (([] : List Int), false)) else (if (wrap64 ((wrap64 (Int.tdiv (rd x13_1 (ji33)) a0_0)) + (rd (rd_L1 t961 (rd l3 x40_1)) 1))) ≥ a0_1 then (some (([] : List Int), false)) else (if x13_1.length < 17592186044416 then (impl_WalkOfSteps.l0 kj28 t961 (x13_1 ++ [wrap64 ((wrap64 ((wrap64 ((wrap64 (Int.tdiv (rd x13_1 (ji33)) a0_0)) + (rd (rd_L1 t961 (rd l3 x40_1)) 1))) * a0_0)) + (wrap64 ((Int.tmod (rd x13_1 (ji33)) a0_0) + (rd (rd_L1 t961 (rd l3 x40_1)) 0))))]) l3 (l3.length : Int) (wrap64 (x40_1 + 1)) a0_0 a0_1 l0_2 a0_0 a0_1 l0_2 a1_0 a1_1 t952 t955) else (none)))))) else (none)) else (none)) else (none)) else (none))) else (none)) else (none)) = some (r1, r2) := by first | (rw [hji33] at H; exact H) | (simp only [hji33] at H ⊢; exact H)
     have hji33w : (IntKind.i64.wrap ((x13_1.length : Int) - 1)) = ji33 := (i64_w _).trans hji33
     by_cases c34 : 0 ≤ (ji33)
     rotate_left
     ·rw [if_neg c34] at H
      exact absurd H (by simp)
     rw [if_pos c34] at H
     have c34b0 : decide (0 ≤ (ji33)) = true := decide_eq_true c34
     clear c34
     by_cases c35 : (ji33) < (x13_1.length : Int)
     rotate_left
     ·rw [if_neg c35] at H
      exact absurd H (by simp)
     rw [if_pos c35] at H
     have c35b0 : decide ((ji33) < (x13_1.length : Int)) = true := decide_eq_true c35
     clear c35
     by_cases c36 : a0_0 = 0
     ·rw [if_pos c36] at H
      exact absurd H (by simp)
     rw [if_neg c36] at H
     have c36b0 : (a0_0 == 0) = false := beq_eq_false_iff_ne.mpr c36
     have c36b1 : (a0_0 != 0) = true := bne_iff_ne.mpr c36
     by_cases c37 : 0 ≤ (rd l3 x40_1)
     rotate_left
     ·rw [if_neg c37] at H
      exact absurd H (by simp)
     rw [if_pos c37] at H
     have c37b0 : decide (0 ≤ (rd l3 x40_1)) = true := decide_eq_true c37
     clear c37
     by_cases c38 : (rd l3 x40_1) < (t961.length : Int)
     rotate_left
     ·rw [if_neg c38] at H
      exact absurd H (by simp)
     rw [if_pos c38] at H
     have c38b0 : decide ((rd l3 x40_1) < (t961.length : Int)) = true := decide_eq_true c38
     clear c38
     by_cases c39 : 0 < ((rd_L1 t961 (rd l3 x40_1)).length : Int)
     rotate_left
     ·rw [if_neg c39] at H
      exact absurd H (by simp)
     rw [if_pos c39] at H
     have c39b0 : decide (0 < ((rd_L1 t961 (rd l3 x40_1)).length : Int)) = true := decide_eq_true c39
     have c39b1 : decide (0 < (rd_L1 t961 (rd l3 x40_1)).length) = true := decide_eq_true (by omega)
     clear c39
     by_cases c40 : 1 < ((rd_L1 t961 (rd l3 x40_1)).length : Int)
     rotate_left
     ·rw [if_neg c40] at H
      exact absurd H (by simp)
     rw [if_pos c40] at H
     have c40b0 : decide (1 < ((rd_L1 t961 (rd l3 x40_1)).length : Int)) = true := decide_eq_true c40
     have c40b1 : decide (1 < (rd_L1 t961 (rd l3 x40_1)).length) = true := decide_eq_true (by omega)
     clear c40
     by_cases c41 : (wrap64 ((Int.tmod (rd x13_1 (ji33)) a0_0) + (rd (rd_L1 t961 (rd l3 x40_1)) 0))) < 0
     ·rw [if_pos c41] at H
      have c41b0 : decide ((wrap64 ((Int.tmod (rd x13_1 (ji33)) a0_0) + (rd (rd_L1 t961 (rd l3 x40_1)) 0))) < 0) = true := decide_eq_true c41
      clear c41
      simp only [Option.some.injEq, Prod.mk.injEq] at H
      obtain ⟨rfl, rfl⟩ := H
      obtain ⟨Ao42, co42, eo42⟩ := Kd.R_slice HO_13.out
      subst eo42
      have p969 : 0 ≤ ((ji33) : Int) := of_decide_eq_true zam9
      have q969 : (ji33) < (x13_1.length : Int) := of_decide_eq_true zam9
      obtain ⟨ad969, e969, hx969_0⟩ := Kd.at_int (Kd.R_reads' HO_13.out).2.2 (ji33) p969 q969
      cases e969
      replace p969 := eq_true p969
      replace q969 := eq_true q969
      have hnb43 := NB950_951.out
      have hnc43 := NB951_950.out
      have hnb44 := NB950_958.out
      have hnc44 := NB958_950.out
      have hcz45_0 : wc.cell? ⟨gb950, 0, none⟩ = some (.int .i64 a0_0) := (blk_cell BK950.out 0).trans rfl
      have hcz45_1 : wc.cell? ⟨gb950, 1, none⟩ = some (.int .i64 a0_1) := (blk_cell BK950.out 1).trans rfl
      have hcz45_2 : wc.cell? ⟨gb950, 2, none⟩ = some (.slice A0_2 l0_2.length c0_2) := (blk_cell BK950.out 2).trans rfl
      have hfz45_0 := blk_frozen BK950.out 0
      have hfz45_1 := blk_frozen BK950.out 1
      have hfz45_2 := blk_frozen BK950.out 2
      obtain ⟨Ao46, co46, eo46⟩ := Kd.S_slice HO_12.out
      subst eo46
      have p970 : 0 ≤ ((rd l3 x40_1) : Int) := of_decide_eq_true zam9
      have q970 : (rd l3 x40_1) < (t961.length : Int) := of_decide_eq_true zam9
      obtain ⟨ad970, A970_0, c970_0, e970, hx970_0, hl970_0, hi970_0⟩ := at_L1 (Kd.S_reads' HO_12.out).2.2 (rd l3 x40_1) p970 q970
      cases e970
      obtain ⟨ce970, hce970, hMe970, hcc970⟩ := Kd.S_get HO_12.out [] (rd l3 x40_1) p970 zam37
      obtain ⟨ve970_0, rfl, ge970_0⟩ := hMe970
      have hv970_0 := hcc970 0 _ rfl
      rw [Nat.add_zero, show ((Kd.slice 3 (Kd.int .i64))).sz = 1 from rfl, Nat.mul_one] at hv970_0
      replace hv970_0 := Option.some.inj (hv970_0.symm.trans hx970_0)
      rw [hv970_0] at ge970_0
      have HL970_0 := Aside0.mk (show Kd.R (Kd.int .i64) 3 _ _ _ _ (rd_L1 t961 (rd l3 x40_1)) from ge970_0)
      clear hv970_0 ge970_0
      clear hcc970 hce970
      have HR970_0 := Aside0.mk hi970_0
      have HC970_0 := Aside0.mk hl970_0
      clear hi970_0 hl970_0
      replace p970 := eq_true p970
      replace q970 := eq_true q970
      have p971 : 0 ≤ (0 : Int) := (by omega)
      have q971 : 0 < ((rd_L1 t961 (rd l3 x40_1)).length : Int) := of_decide_eq_true zam9
      obtain ⟨ad971, e971, hx971_0⟩ := Kd.at_int zam24 0 p971 q971
      cases e971
      have qi971 : (0 < (rd_L1 t961 (rd l3 x40_1)).length) = True := eq_true (by omega)
      (try rw [show ((0 : Int)).toNat = 0 from rfl] at hx971_0)
      (try rw [Addr.add_zero'] at hx971_0)
      replace p971 := eq_true p971
      replace q971 := eq_true q971
      have p972 : 0 ≤ ((rd l3 x40_1) : Int) := of_decide_eq_true zam9
      have q972 : (rd l3 x40_1) < (t961.length : Int) := of_decide_eq_true zam9
      obtain ⟨ad972, A972_0, c972_0, e972, hx972_0, hl972_0, hi972_0⟩ := at_L1 (Kd.S_reads' HO_12.out).2.2 (rd l3 x40_1) p972 q972
      obtain rfl : ad970 = ad972 := (by injection e972)
      obtain ⟨ce972, hce972, hMe972, hcc972⟩ := Kd.S_get HO_12.out [] (rd l3 x40_1) p972 zam36
      obtain ⟨ve972_0, rfl, ge972_0⟩ := hMe972
      have hv972_0 := hcc972 0 _ rfl
      rw [Nat.add_zero, show ((Kd.slice 3 (Kd.int .i64))).sz = 1 from rfl, Nat.mul_one] at hv972_0
      replace hv972_0 := Option.some.inj (hv972_0.symm.trans hx972_0)
      rw [hv972_0] at ge972_0
      have HL972_0 := Aside0.mk (show Kd.R (Kd.int .i64) 3 _ _ _ _ (rd_L1 t961 (rd l3 x40_1)) from ge972_0)
      clear hv972_0 ge972_0
      clear hcc972 hce972
      have HR972_0 := Aside0.mk hi972_0
      have HC972_0 := Aside0.mk hl972_0
      clear hi972_0 hl972_0
      replace p972 := eq_true p972
      replace q972 := eq_true q972
      (first | have ea_ := Option.some.inj (hx970_0.symm.trans hx972_0) | have ea_ := Option.some.inj (HX970_0.out.symm.trans hx972_0))
      injection ea_ with ea_ en_ ec_
      subst ea_
      subst ec_
      clear en_
      have p973 : 0 ≤ (1 : Int) := (by omega)
      have q973 : 1 < ((rd_L1 t961 (rd l3 x40_1)).length : Int) := of_decide_eq_true zam9
      obtain ⟨ad973, e973, hx973_0⟩ := Kd.at_int zam23 1 p973 q973
      cases e973
      (try simp only [show (1 : Int).toNat = 1 from rfl, Nat.reduceMul, Nat.reduceEqDiff, Go.Addr.add, ↓reduceIte] at hx973_0)
      have qi973 : (1 < (rd_L1 t961 (rd l3 x40_1)).length) = True := eq_true (by omega)
      (try rw [show ((1 : Int)).toNat = 1 from rfl] at hx973_0)
      replace p973 := eq_true p973
      replace q973 := eq_true q973
      go_wp2
      repeat ((first | go_quiet (fail) | (refine wp_region_quiet_lit (by kernel_rfl) (by kernel_rfl) ?_; (repeat (any_goals (first | go_big_quiet_step (fail) | quiet_step (fail)))); all_goals (refine wpQuiet_nil ?_; intro _ hw2_; obtain ⟨nq, hw3_⟩ := hw2_; subst hw3_))); try go_wp2)
      go_ret2
      exact ⟨_, zam28, zam20, zam2⟩
     rw [if_neg c41] at H
     have c41b0 : decide ((wrap64 ((Int.tmod (rd x13_1 (ji33)) a0_0) + (rd (rd_L1 t961 (rd l3 x40_1)) 0))) < 0) = false := decide_eq_false c41
     clear c41
     by_cases c47 : (wrap64 ((Int.tmod (rd x13_1 (ji33)) a0_0) + (rd (rd_L1 t961 (rd l3 x40_1)) 0))) ≥ a0_0
     ·rw [if_pos c47] at H
      have c47b0 : decide (a0_0 ≤ (wrap64 ((Int.tmod (rd x13_1 (ji33)) a0_0) + (rd (rd_L1 t961 (rd l3 x40_1)) 0)))) = true := decide_eq_true c47
      clear c47
      simp only [Option.some.injEq, Prod.mk.injEq] at H
      obtain ⟨rfl, rfl⟩ := H
      obtain ⟨Ao48, co48, eo48⟩ := Kd.R_slice HO_13.out
      subst eo48
      have p969 : 0 ≤ ((ji33) : Int) := of_decide_eq_true zam9
      have q969 : (ji33) < (x13_1.length : Int) := of_decide_eq_true zam9
      obtain ⟨ad969, e969, hx969_0⟩ := Kd.at_int (Kd.R_reads' HO_13.out).2.2 (ji33) p969 q969
      cases e969
      replace p969 := eq_true p969
      replace q969 := eq_true q969
      have hnb49 := NB950_951.out
      have hnc49 := NB951_950.out
      have hnb50 := NB950_958.out
      have hnc50 := NB958_950.out
      have hcz51_0 : wc.cell? ⟨gb950, 0, none⟩ = some (.int .i64 a0_0) := (blk_cell BK950.out 0).trans rfl
      have hcz51_1 : wc.cell? ⟨gb950, 1, none⟩ = some (.int .i64 a0_1) := (blk_cell BK950.out 1).trans rfl
      have hcz51_2 : wc.cell? ⟨gb950, 2, none⟩ = some (.slice A0_2 l0_2.length c0_2) := (blk_cell BK950.out 2).trans rfl
      have hfz51_0 := blk_frozen BK950.out 0
      have hfz51_1 := blk_frozen BK950.out 1
      have hfz51_2 := blk_frozen BK950.out 2
      obtain ⟨Ao52, co52, eo52⟩ := Kd.S_slice HO_12.out
      subst eo52
      have p970 : 0 ≤ ((rd l3 x40_1) : Int) := of_decide_eq_true zam9
      have q970 : (rd l3 x40_1) < (t961.length : Int) := of_decide_eq_true zam9
      obtain ⟨ad970, A970_0, c970_0, e970, hx970_0, hl970_0, hi970_0⟩ := at_L1 (Kd.S_reads' HO_12.out).2.2 (rd l3 x40_1) p970 q970
      cases e970
      obtain ⟨ce970, hce970, hMe970, hcc970⟩ := Kd.S_get HO_12.out [] (rd l3 x40_1) p970 zam37
      obtain ⟨ve970_0, rfl, ge970_0⟩ := hMe970
      have hv970_0 := hcc970 0 _ rfl
      rw [Nat.add_zero, show ((Kd.slice 3 (Kd.int .i64))).sz = 1 from rfl, Nat.mul_one] at hv970_0
      replace hv970_0 := Option.some.inj (hv970_0.symm.trans hx970_0)
      rw [hv970_0] at ge970_0
      have HL970_0 := Aside0.mk (show Kd.R (Kd.int .i64) 3 _ _ _ _ (rd_L1 t961 (rd l3 x40_1)) from ge970_0)
      clear hv970_0 ge970_0
      clear hcc970 hce970
      have HR970_0 := Aside0.mk hi970_0
      have HC970_0 := Aside0.mk hl970_0
      clear hi970_0 hl970_0
      replace p970 := eq_true p970
      replace q970 := eq_true q970
      have p971 : 0 ≤ (0 : Int) := (by omega)
      have q971 : 0 < ((rd_L1 t961 (rd l3 x40_1)).length : Int) := of_decide_eq_true zam9
      obtain ⟨ad971, e971, hx971_0⟩ := Kd.at_int zam24 0 p971 q971
      cases e971
      have qi971 : (0 < (rd_L1 t961 (rd l3 x40_1)).length) = True := eq_true (by omega)
      (try rw [show ((0 : Int)).toNat = 0 from rfl] at hx971_0)
      (try rw [Addr.add_zero'] at hx971_0)
      replace p971 := eq_true p971
      replace q971 := eq_true q971
      have p972 : 0 ≤ ((rd l3 x40_1) : Int) := of_decide_eq_true zam9
      have q972 : (rd l3 x40_1) < (t961.length : Int) := of_decide_eq_true zam9
      obtain ⟨ad972, A972_0, c972_0, e972, hx972_0, hl972_0, hi972_0⟩ := at_L1 (Kd.S_reads' HO_12.out).2.2 (rd l3 x40_1) p972 q972
      obtain rfl : ad970 = ad972 := (by injection e972)
      obtain ⟨ce972, hce972, hMe972, hcc972⟩ := Kd.S_get HO_12.out [] (rd l3 x40_1) p972 zam36
      obtain ⟨ve972_0, rfl, ge972_0⟩ := hMe972
      have hv972_0 := hcc972 0 _ rfl
      rw [Nat.add_zero, show ((Kd.slice 3 (Kd.int .i64))).sz = 1 from rfl, Nat.mul_one] at hv972_0
      replace hv972_0 := Option.some.inj (hv972_0.symm.trans hx972_0)
      rw [hv972_0] at ge972_0
      have HL972_0 := Aside0.mk (show Kd.R (Kd.int .i64) 3 _ _ _ _ (rd_L1 t961 (rd l3 x40_1)) from ge972_0)
      clear hv972_0 ge972_0
      clear hcc972 hce972
      have HR972_0 := Aside0.mk hi972_0
      have HC972_0 := Aside0.mk hl972_0
      clear hi972_0 hl972_0
      replace p972 := eq_true p972
      replace q972 := eq_true q972
      (first | have ea_ := Option.some.inj (hx970_0.symm.trans hx972_0) | have ea_ := Option.some.inj (HX970_0.out.symm.trans hx972_0))
      injection ea_ with ea_ en_ ec_
      subst ea_
      subst ec_
      clear en_
      have p973 : 0 ≤ (1 : Int) := (by omega)
      have q973 : 1 < ((rd_L1 t961 (rd l3 x40_1)).length : Int) := of_decide_eq_true zam9
      obtain ⟨ad973, e973, hx973_0⟩ := Kd.at_int zam23 1 p973 q973
      cases e973
      (try simp only [show (1 : Int).toNat = 1 from rfl, Nat.reduceMul, Nat.reduceEqDiff, Go.Addr.add, ↓reduceIte] at hx973_0)
      have qi973 : (1 < (rd_L1 t961 (rd l3 x40_1)).length) = True := eq_true (by omega)
      (try rw [show ((1 : Int)).toNat = 1 from rfl] at hx973_0)
      replace p973 := eq_true p973
      replace q973 := eq_true q973
      go_wp2
      repeat ((first | go_quiet (fail) | (refine wp_region_quiet_lit (by kernel_rfl) (by kernel_rfl) ?_; (repeat (any_goals (first | go_big_quiet_step (fail) | quiet_step (fail)))); all_goals (refine wpQuiet_nil ?_; intro _ hw2_; obtain ⟨nq, hw3_⟩ := hw2_; subst hw3_))); try go_wp2)
      go_ret2
      exact ⟨_, zam28, zam20, zam2⟩
     rw [if_neg c47] at H
     have c47b0 : decide (a0_0 ≤ (wrap64 ((Int.tmod (rd x13_1 (ji33)) a0_0) + (rd (rd_L1 t961 (rd l3 x40_1)) 0)))) = false := decide_eq_false c47
     clear c47
     by_cases c53 : (wrap64 ((wrap64 (Int.tdiv (rd x13_1 (ji33)) a0_0)) + (rd (rd_L1 t961 (rd l3 x40_1)) 1))) < 0
     ·rw [if_pos c53] at H
      have c53b0 : decide ((wrap64 ((wrap64 (Int.tdiv (rd x13_1 (ji33)) a0_0)) + (rd (rd_L1 t961 (rd l3 x40_1)) 1))) < 0) = true := decide_eq_true c53
      clear c53
      simp only [Option.some.injEq, Prod.mk.injEq] at H
      obtain ⟨rfl, rfl⟩ := H
      obtain ⟨Ao54, co54, eo54⟩ := Kd.R_slice HO_13.out
      subst eo54
      have p969 : 0 ≤ ((ji33) : Int) := of_decide_eq_true zam9
      have q969 : (ji33) < (x13_1.length : Int) := of_decide_eq_true zam9
      obtain ⟨ad969, e969, hx969_0⟩ := Kd.at_int (Kd.R_reads' HO_13.out).2.2 (ji33) p969 q969
      cases e969
      replace p969 := eq_true p969
      replace q969 := eq_true q969
      have hnb55 := NB950_951.out
      have hnc55 := NB951_950.out
      have hnb56 := NB950_958.out
      have hnc56 := NB958_950.out
      have hcz57_0 : wc.cell? ⟨gb950, 0, none⟩ = some (.int .i64 a0_0) := (blk_cell BK950.out 0).trans rfl
      have hcz57_1 : wc.cell? ⟨gb950, 1, none⟩ = some (.int .i64 a0_1) := (blk_cell BK950.out 1).trans rfl
      have hcz57_2 : wc.cell? ⟨gb950, 2, none⟩ = some (.slice A0_2 l0_2.length c0_2) := (blk_cell BK950.out 2).trans rfl
      have hfz57_0 := blk_frozen BK950.out 0
      have hfz57_1 := blk_frozen BK950.out 1
      have hfz57_2 := blk_frozen BK950.out 2
      obtain ⟨Ao58, co58, eo58⟩ := Kd.S_slice HO_12.out
      subst eo58
      have p970 : 0 ≤ ((rd l3 x40_1) : Int) := of_decide_eq_true zam9
      have q970 : (rd l3 x40_1) < (t961.length : Int) := of_decide_eq_true zam9
      obtain ⟨ad970, A970_0, c970_0, e970, hx970_0, hl970_0, hi970_0⟩ := at_L1 (Kd.S_reads' HO_12.out).2.2 (rd l3 x40_1) p970 q970
      cases e970
      obtain ⟨ce970, hce970, hMe970, hcc970⟩ := Kd.S_get HO_12.out [] (rd l3 x40_1) p970 zam37
      obtain ⟨ve970_0, rfl, ge970_0⟩ := hMe970
      have hv970_0 := hcc970 0 _ rfl
      rw [Nat.add_zero, show ((Kd.slice 3 (Kd.int .i64))).sz = 1 from rfl, Nat.mul_one] at hv970_0
      replace hv970_0 := Option.some.inj (hv970_0.symm.trans hx970_0)
      rw [hv970_0] at ge970_0
      have HL970_0 := Aside0.mk (show Kd.R (Kd.int .i64) 3 _ _ _ _ (rd_L1 t961 (rd l3 x40_1)) from ge970_0)
      clear hv970_0 ge970_0
      clear hcc970 hce970
      have HR970_0 := Aside0.mk hi970_0
      have HC970_0 := Aside0.mk hl970_0
      clear hi970_0 hl970_0
      replace p970 := eq_true p970
      replace q970 := eq_true q970
      have p971 : 0 ≤ (0 : Int) := (by omega)
      have q971 : 0 < ((rd_L1 t961 (rd l3 x40_1)).length : Int) := of_decide_eq_true zam9
      obtain ⟨ad971, e971, hx971_0⟩ := Kd.at_int zam24 0 p971 q971
      cases e971
      have qi971 : (0 < (rd_L1 t961 (rd l3 x40_1)).length) = True := eq_true (by omega)
      (try rw [show ((0 : Int)).toNat = 0 from rfl] at hx971_0)
      (try rw [Addr.add_zero'] at hx971_0)
      replace p971 := eq_true p971
      replace q971 := eq_true q971
      have p972 : 0 ≤ ((rd l3 x40_1) : Int) := of_decide_eq_true zam9
      have q972 : (rd l3 x40_1) < (t961.length : Int) := of_decide_eq_true zam9
      obtain ⟨ad972, A972_0, c972_0, e972, hx972_0, hl972_0, hi972_0⟩ := at_L1 (Kd.S_reads' HO_12.out).2.2 (rd l3 x40_1) p972 q972
      obtain rfl : ad970 = ad972 := (by injection e972)
      obtain ⟨ce972, hce972, hMe972, hcc972⟩ := Kd.S_get HO_12.out [] (rd l3 x40_1) p972 zam36
      obtain ⟨ve972_0, rfl, ge972_0⟩ := hMe972
      have hv972_0 := hcc972 0 _ rfl
      rw [Nat.add_zero, show ((Kd.slice 3 (Kd.int .i64))).sz = 1 from rfl, Nat.mul_one] at hv972_0
      replace hv972_0 := Option.some.inj (hv972_0.symm.trans hx972_0)
      rw [hv972_0] at ge972_0
      have HL972_0 := Aside0.mk (show Kd.R (Kd.int .i64) 3 _ _ _ _ (rd_L1 t961 (rd l3 x40_1)) from ge972_0)
      clear hv972_0 ge972_0
      clear hcc972 hce972
      have HR972_0 := Aside0.mk hi972_0
      have HC972_0 := Aside0.mk hl972_0
      clear hi972_0 hl972_0
      replace p972 := eq_true p972
      replace q972 := eq_true q972
      (first | have ea_ := Option.some.inj (hx970_0.symm.trans hx972_0) | have ea_ := Option.some.inj (HX970_0.out.symm.trans hx972_0))
      injection ea_ with ea_ en_ ec_
      subst ea_
      subst ec_
      clear en_
      have p973 : 0 ≤ (1 : Int) := (by omega)
      have q973 : 1 < ((rd_L1 t961 (rd l3 x40_1)).length : Int) := of_decide_eq_true zam9
      obtain ⟨ad973, e973, hx973_0⟩ := Kd.at_int zam23 1 p973 q973
      cases e973
      (try simp only [show (1 : Int).toNat = 1 from rfl, Nat.reduceMul, Nat.reduceEqDiff, Go.Addr.add, ↓reduceIte] at hx973_0)
      have qi973 : (1 < (rd_L1 t961 (rd l3 x40_1)).length) = True := eq_true (by omega)
      (try rw [show ((1 : Int)).toNat = 1 from rfl] at hx973_0)
      replace p973 := eq_true p973
      replace q973 := eq_true q973
      go_wp2
      repeat ((first | go_quiet (fail) | (refine wp_region_quiet_lit (by kernel_rfl) (by kernel_rfl) ?_; (repeat (any_goals (first | go_big_quiet_step (fail) | quiet_step (fail)))); all_goals (refine wpQuiet_nil ?_; intro _ hw2_; obtain ⟨nq, hw3_⟩ := hw2_; subst hw3_))); try go_wp2)
      go_ret2
      exact ⟨_, zam28, zam20, zam2⟩
     rw [if_neg c53] at H
     have c53b0 : decide ((wrap64 ((wrap64 (Int.tdiv (rd x13_1 (ji33)) a0_0)) + (rd (rd_L1 t961 (rd l3 x40_1)) 1))) < 0) = false := decide_eq_false c53
     clear c53
     by_cases c59 : (wrap64 ((wrap64 (Int.tdiv (rd x13_1 (ji33)) a0_0)) + (rd (rd_L1 t961 (rd l3 x40_1)) 1))) ≥ a0_1
     ·rw [if_pos c59] at H
      have c59b0 : decide (a0_1 ≤ (wrap64 ((wrap64 (Int.tdiv (rd x13_1 (ji33)) a0_0)) + (rd (rd_L1 t961 (rd l3 x40_1)) 1)))) = true := decide_eq_true c59
      clear c59
      simp only [Option.some.injEq, Prod.mk.injEq] at H
      obtain ⟨rfl, rfl⟩ := H
      obtain ⟨Ao60, co60, eo60⟩ := Kd.R_slice HO_13.out
      subst eo60
      have p969 : 0 ≤ ((ji33) : Int) := of_decide_eq_true zam9
      have q969 : (ji33) < (x13_1.length : Int) := of_decide_eq_true zam9
      obtain ⟨ad969, e969, hx969_0⟩ := Kd.at_int (Kd.R_reads' HO_13.out).2.2 (ji33) p969 q969
      cases e969
      replace p969 := eq_true p969
      replace q969 := eq_true q969
      have hnb61 := NB950_951.out
      have hnc61 := NB951_950.out
      have hnb62 := NB950_958.out
      have hnc62 := NB958_950.out
      have hcz63_0 : wc.cell? ⟨gb950, 0, none⟩ = some (.int .i64 a0_0) := (blk_cell BK950.out 0).trans rfl
      have hcz63_1 : wc.cell? ⟨gb950, 1, none⟩ = some (.int .i64 a0_1) := (blk_cell BK950.out 1).trans rfl
      have hcz63_2 : wc.cell? ⟨gb950, 2, none⟩ = some (.slice A0_2 l0_2.length c0_2) := (blk_cell BK950.out 2).trans rfl
      have hfz63_0 := blk_frozen BK950.out 0
      have hfz63_1 := blk_frozen BK950.out 1
      have hfz63_2 := blk_frozen BK950.out 2
      obtain ⟨Ao64, co64, eo64⟩ := Kd.S_slice HO_12.out
      subst eo64
      have p970 : 0 ≤ ((rd l3 x40_1) : Int) := of_decide_eq_true zam9
      have q970 : (rd l3 x40_1) < (t961.length : Int) := of_decide_eq_true zam9
      obtain ⟨ad970, A970_0, c970_0, e970, hx970_0, hl970_0, hi970_0⟩ := at_L1 (Kd.S_reads' HO_12.out).2.2 (rd l3 x40_1) p970 q970
      cases e970
      obtain ⟨ce970, hce970, hMe970, hcc970⟩ := Kd.S_get HO_12.out [] (rd l3 x40_1) p970 zam37
      obtain ⟨ve970_0, rfl, ge970_0⟩ := hMe970
      have hv970_0 := hcc970 0 _ rfl
      rw [Nat.add_zero, show ((Kd.slice 3 (Kd.int .i64))).sz = 1 from rfl, Nat.mul_one] at hv970_0
      replace hv970_0 := Option.some.inj (hv970_0.symm.trans hx970_0)
      rw [hv970_0] at ge970_0
      have HL970_0 := Aside0.mk (show Kd.R (Kd.int .i64) 3 _ _ _ _ (rd_L1 t961 (rd l3 x40_1)) from ge970_0)
      clear hv970_0 ge970_0
      clear hcc970 hce970
      have HR970_0 := Aside0.mk hi970_0
      have HC970_0 := Aside0.mk hl970_0
      clear hi970_0 hl970_0
      replace p970 := eq_true p970
      replace q970 := eq_true q970
      have p971 : 0 ≤ (0 : Int) := (by omega)
      have q971 : 0 < ((rd_L1 t961 (rd l3 x40_1)).length : Int) := of_decide_eq_true zam9
      obtain ⟨ad971, e971, hx971_0⟩ := Kd.at_int zam24 0 p971 q971
      cases e971
      have qi971 : (0 < (rd_L1 t961 (rd l3 x40_1)).length) = True := eq_true (by omega)
      (try rw [show ((0 : Int)).toNat = 0 from rfl] at hx971_0)
      (try rw [Addr.add_zero'] at hx971_0)
      replace p971 := eq_true p971
      replace q971 := eq_true q971
      have p972 : 0 ≤ ((rd l3 x40_1) : Int) := of_decide_eq_true zam9
      have q972 : (rd l3 x40_1) < (t961.length : Int) := of_decide_eq_true zam9
      obtain ⟨ad972, A972_0, c972_0, e972, hx972_0, hl972_0, hi972_0⟩ := at_L1 (Kd.S_reads' HO_12.out).2.2 (rd l3 x40_1) p972 q972
      obtain rfl : ad970 = ad972 := (by injection e972)
      obtain ⟨ce972, hce972, hMe972, hcc972⟩ := Kd.S_get HO_12.out [] (rd l3 x40_1) p972 zam36
      obtain ⟨ve972_0, rfl, ge972_0⟩ := hMe972
      have hv972_0 := hcc972 0 _ rfl
      rw [Nat.add_zero, show ((Kd.slice 3 (Kd.int .i64))).sz = 1 from rfl, Nat.mul_one] at hv972_0
      replace hv972_0 := Option.some.inj (hv972_0.symm.trans hx972_0)
      rw [hv972_0] at ge972_0
      have HL972_0 := Aside0.mk (show Kd.R (Kd.int .i64) 3 _ _ _ _ (rd_L1 t961 (rd l3 x40_1)) from ge972_0)
      clear hv972_0 ge972_0
      clear hcc972 hce972
      have HR972_0 := Aside0.mk hi972_0
      have HC972_0 := Aside0.mk hl972_0
      clear hi972_0 hl972_0
      replace p972 := eq_true p972
      replace q972 := eq_true q972
      (first | have ea_ := Option.some.inj (hx970_0.symm.trans hx972_0) | have ea_ := Option.some.inj (HX970_0.out.symm.trans hx972_0))
      injection ea_ with ea_ en_ ec_
      subst ea_
      subst ec_
      clear en_
      have p973 : 0 ≤ (1 : Int) := (by omega)
      have q973 : 1 < ((rd_L1 t961 (rd l3 x40_1)).length : Int) := of_decide_eq_true zam9
      obtain ⟨ad973, e973, hx973_0⟩ := Kd.at_int zam23 1 p973 q973
      cases e973
      (try simp only [show (1 : Int).toNat = 1 from rfl, Nat.reduceMul, Nat.reduceEqDiff, Go.Addr.add, ↓reduceIte] at hx973_0)
      have qi973 : (1 < (rd_L1 t961 (rd l3 x40_1)).length) = True := eq_true (by omega)
      (try rw [show ((1 : Int)).toNat = 1 from rfl] at hx973_0)
      replace p973 := eq_true p973
      replace q973 := eq_true q973
      go_wp2
      repeat ((first | go_quiet (fail) | (refine wp_region_quiet_lit (by kernel_rfl) (by kernel_rfl) ?_; (repeat (any_goals (first | go_big_quiet_step (fail) | quiet_step (fail)))); all_goals (refine wpQuiet_nil ?_; intro _ hw2_; obtain ⟨nq, hw3_⟩ := hw2_; subst hw3_))); try go_wp2)
      go_ret2
      exact ⟨_, zam28, zam20, zam2⟩
     rw [if_neg c59] at H
     have c59b0 : decide (a0_1 ≤ (wrap64 ((wrap64 (Int.tdiv (rd x13_1 (ji33)) a0_0)) + (rd (rd_L1 t961 (rd l3 x40_1)) 1)))) = false := decide_eq_false c59
     clear c59
     by_cases c65 : x13_1.length < 17592186044416
     rotate_left
     ·rw [if_neg c65] at H
      exact absurd H (by simp)
     rw [if_pos c65] at H
     have LMc65 := Aside0.mk c65
     clear c65
     obtain ⟨y974, hy974⟩ : ∃ y_ : List Int, y_ = (x13_1 ++ [wrap64 ((wrap64 ((wrap64 ((wrap64 (Int.tdiv (rd x13_1 (ji33)) a0_0)) + (rd (rd_L1 t961 (rd l3 x40_1)) 1))) * a0_0)) + (wrap64 ((Int.tmod (rd x13_1 (ji33)) a0_0) + (rd (rd_L1 t961 (rd l3 x40_1)) 0))))]) := ⟨_, rfl⟩
     replace H : (impl_WalkOfSteps.l0 kj28 t961 y974 l3 (l3.length : Int) (wrap64 (x40_1 + 1)) a0_0 a0_1 l0_2 a0_0 a0_1 l0_2 a1_0 a1_1 t952 t955) = some (r1, r2) := by first | (rw [hy974]; with_reducible exact H) | (have H2_ := (Option.bind_some _ _).symm.trans H; rw [hy974]; with_reducible exact H2_) | (have H2_ := (Option.bind_some _ _).symm.trans H; with_reducible exact H2_) | with_reducible exact H | (rw [hy974]; exact H) | exact H
     have Ny974 := Aside0.mk hy974
     clear hy974
     have H' := Aside0.mk H
     clear H
     obtain ⟨Ao66, co66, eo66⟩ := Kd.R_slice HO_13.out
     subst eo66
     have p969 : 0 ≤ ((ji33) : Int) := of_decide_eq_true zam9
     have q969 : (ji33) < (x13_1.length : Int) := of_decide_eq_true zam9
     obtain ⟨ad969, e969, hx969_0⟩ := Kd.at_int (Kd.R_reads' HO_13.out).2.2 (ji33) p969 q969
     cases e969
     replace p969 := eq_true p969
     replace q969 := eq_true q969
     have hnb67 := NB950_951.out
     have hnc67 := NB951_950.out
     have hnb68 := NB950_958.out
     have hnc68 := NB958_950.out
     have hcz69_0 : wc.cell? ⟨gb950, 0, none⟩ = some (.int .i64 a0_0) := (blk_cell BK950.out 0).trans rfl
     have hcz69_1 : wc.cell? ⟨gb950, 1, none⟩ = some (.int .i64 a0_1) := (blk_cell BK950.out 1).trans rfl
     have hcz69_2 : wc.cell? ⟨gb950, 2, none⟩ = some (.slice A0_2 l0_2.length c0_2) := (blk_cell BK950.out 2).trans rfl
     have hfz69_0 := blk_frozen BK950.out 0
     have hfz69_1 := blk_frozen BK950.out 1
     have hfz69_2 := blk_frozen BK950.out 2
     obtain ⟨Ao70, co70, eo70⟩ := Kd.S_slice HO_12.out
     subst eo70
     have p970 : 0 ≤ ((rd l3 x40_1) : Int) := of_decide_eq_true zam9
     have q970 : (rd l3 x40_1) < (t961.length : Int) := of_decide_eq_true zam9
     obtain ⟨ad970, A970_0, c970_0, e970, hx970_0, hl970_0, hi970_0⟩ := at_L1 (Kd.S_reads' HO_12.out).2.2 (rd l3 x40_1) p970 q970
     cases e970
     obtain ⟨ce970, hce970, hMe970, hcc970⟩ := Kd.S_get HO_12.out [] (rd l3 x40_1) p970 zam37
     obtain ⟨ve970_0, rfl, ge970_0⟩ := hMe970
     have hv970_0 := hcc970 0 _ rfl
     rw [Nat.add_zero, show ((Kd.slice 3 (Kd.int .i64))).sz = 1 from rfl, Nat.mul_one] at hv970_0
     replace hv970_0 := Option.some.inj (hv970_0.symm.trans hx970_0)
     rw [hv970_0] at ge970_0
     have HL970_0 := Aside0.mk (show Kd.R (Kd.int .i64) 3 _ _ _ _ (rd_L1 t961 (rd l3 x40_1)) from ge970_0)
     clear hv970_0 ge970_0
     clear hcc970 hce970
     have HR970_0 := Aside0.mk hi970_0
     have HC970_0 := Aside0.mk hl970_0
     clear hi970_0 hl970_0
     replace p970 := eq_true p970
     replace q970 := eq_true q970
     have p971 : 0 ≤ (0 : Int) := (by omega)
     have q971 : 0 < ((rd_L1 t961 (rd l3 x40_1)).length : Int) := of_decide_eq_true zam9
     obtain ⟨ad971, e971, hx971_0⟩ := Kd.at_int zam24 0 p971 q971
     cases e971
     have qi971 : (0 < (rd_L1 t961 (rd l3 x40_1)).length) = True := eq_true (by omega)
     (try rw [show ((0 : Int)).toNat = 0 from rfl] at hx971_0)
     (try rw [Addr.add_zero'] at hx971_0)
     replace p971 := eq_true p971
     replace q971 := eq_true q971
     have p972 : 0 ≤ ((rd l3 x40_1) : Int) := of_decide_eq_true zam9
     have q972 : (rd l3 x40_1) < (t961.length : Int) := of_decide_eq_true zam9
     obtain ⟨ad972, A972_0, c972_0, e972, hx972_0, hl972_0, hi972_0⟩ := at_L1 (Kd.S_reads' HO_12.out).2.2 (rd l3 x40_1) p972 q972
     obtain rfl : ad970 = ad972 := (by injection e972)
     obtain ⟨ce972, hce972, hMe972, hcc972⟩ := Kd.S_get HO_12.out [] (rd l3 x40_1) p972 zam36
     obtain ⟨ve972_0, rfl, ge972_0⟩ := hMe972
     have hv972_0 := hcc972 0 _ rfl
     rw [Nat.add_zero, show ((Kd.slice 3 (Kd.int .i64))).sz = 1 from rfl, Nat.mul_one] at hv972_0
     replace hv972_0 := Option.some.inj (hv972_0.symm.trans hx972_0)
     rw [hv972_0] at ge972_0
     have HL972_0 := Aside0.mk (show Kd.R (Kd.int .i64) 3 _ _ _ _ (rd_L1 t961 (rd l3 x40_1)) from ge972_0)
     clear hv972_0 ge972_0
     clear hcc972 hce972
     have HR972_0 := Aside0.mk hi972_0
     have HC972_0 := Aside0.mk hl972_0
     clear hi972_0 hl972_0
     replace p972 := eq_true p972
     replace q972 := eq_true q972
     (first | have ea_ := Option.some.inj (hx970_0.symm.trans hx972_0) | have ea_ := Option.some.inj (HX970_0.out.symm.trans hx972_0))
     injection ea_ with ea_ en_ ec_
     subst ea_
     subst ec_
     clear en_
     have p973 : 0 ≤ (1 : Int) := (by omega)
     have q973 : 1 < ((rd_L1 t961 (rd l3 x40_1)).length : Int) := of_decide_eq_true zam9
     obtain ⟨ad973, e973, hx973_0⟩ := Kd.at_int zam23 1 p973 q973
     cases e973
     (try simp only [show (1 : Int).toNat = 1 from rfl, Nat.reduceMul, Nat.reduceEqDiff, Go.Addr.add, ↓reduceIte] at hx973_0)
     have qi973 : (1 < (rd_L1 t961 (rd l3 x40_1)).length) = True := eq_true (by omega)
     (try rw [show ((1 : Int)).toNat = 1 from rfl] at hx973_0)
     replace p973 := eq_true p973
     replace q973 := eq_true q973
     go_wp2_with (first | ((with_reducible refine gate_builtin (b := .append) (xs := #[.tmp 98, .tmp 105]) rfl ?_); (try (refine gate_guard (by rfl) ?_; dsimp only)); at_builtin; refine Kd.R_append (Kd.int .i64) (w0 := w) w.heap.size rfl (.tmp 98) (.tmp 105) 22 3 (.int .i64 0) 8 rfl Try.underlying22 info3 rfl (by decide) (by omega) (.slice (some ad969) x13_1.length co66) x13_1 (wrap64 ((wrap64 ((wrap64 ((wrap64 (Int.tdiv (rd x13_1 (ji33)) a0_0)) + (rd (rd_L1 t961 (rd l3 x40_1)) 1))) * a0_0)) + (wrap64 ((Int.tmod (rd x13_1 (ji33)) a0_0) + (rd (rd_L1 t961 (rd l3 x40_1)) 0))))) [.int .i64 (wrap64 ((wrap64 ((wrap64 ((wrap64 (Int.tdiv (rd x13_1 (ji33)) a0_0)) + (rd (rd_L1 t961 (rd l3 x40_1)) 1))) * a0_0)) + (wrap64 ((Int.tmod (rd x13_1 (ji33)) a0_0) + (rd (rd_L1 t961 (rd l3 x40_1)) 0)))))] (fun k_ => some k_ ≠ (v953 : Value).ownBlock) (fun _ => False) rfl rfl ?aP (fun _ hk => hk.elim) ?aF ?aO ?aB ?aS ?aL ?_; (case aP => exact rfl); (case aB => exact zam2); (case aF => exact (fun k_ hk => Kd.fresh' (Kd.R_lt zam12) k_ hk)); (case aO => exact zam13); (case aS => exact (below_size zam2)); (case aL => have := LMc65.out; omega); intro v975 w71 ho hb hg hat; rw [← Ny974.out] at ho; have n0_ := Aside0.mk (Kd.S_after (ok := (fun k_ => some k_ ≠ (v953 : Value).ownBlock ∧ some k_ ≠ (v956 : Value).ownBlock ∧ k_ ≠ (rngOut na979_ nb979_ k_))) zam26 hg hat); have n1_ := Aside0.mk (Kd.R_after (ok := (fun _ => True)) zam27 hg hat); have n2_ := Aside0.mk (Kd.S_after (ok := (fun k_ => some k_ ≠ (.slice (some ad970) t961.length co70 : Value).ownBlock ∧ some k_ ≠ (v953 : Value).ownBlock ∧ k_ ≠ (rngIn na979_ nb979_ k_))) zam25 hg hat); have n3_ := Aside0.mk (blk_grown (g := gb950) (o := .cells #[.int .i64 a0_0, .int .i64 a0_1, .slice A0_2 l0_2.length c0_2] 30 (0, 0)) zam3 hg (Kd.R_ne HO_13.out BK950.out (by decide))); have n4_ := Aside0.mk (blk_grown (g := gb951) (o := .cells #[.int .i64 a1_0, .int .i64 a1_1] 32 (0, 0)) zam4 hg (Kd.R_ne HO_13.out BK951.out (by decide))); have n5_ := Aside0.mk (blk_grown (g := gb958) (o := .cells #[.int .i64 a0_0, .int .i64 a0_1, .slice A0_2 l0_2.length c0_2, .int .i64 a1_0, .int .i64 a1_1, v953, v956] 84 (0, 0)) zam6 hg (Kd.R_ne HO_13.out BK958.out (by decide))); have n6_ := Aside0.mk (Kd.R_after (ok := (fun k_ => some k_ ≠ (.slice (some ad970) t961.length co70 : Value).ownBlock ∧ some k_ ≠ (v953 : Value).ownBlock ∧ some k_ ≠ (v956 : Value).ownBlock ∧ k_ ≠ (rngOut na979_ nb979_ k_))) zam22 hg hat); have n7_ := Aside0.mk (Kd.R_after (ok := (fun k_ => some k_ ≠ (.slice (some ad970) t961.length co70 : Value).ownBlock ∧ some k_ ≠ (v953 : Value).ownBlock ∧ some k_ ≠ (v956 : Value).ownBlock ∧ k_ ≠ (rngOut na979_ nb979_ k_))) zam21 hg hat); have n8_ := Aside0.mk (hb); have n9_ := Aside0.mk (ho); have n10_ := Aside0.mk (show nb979_ ≤ w71.heap.size from zam5); clear HO_12; clear HO_959005; clear HO_959006; clear BK950; clear BK951; clear BK958; clear HL970_0; clear HL972_0; clear HB; clear HNB979; clear HO_13; have HO_12 := n0_; have HO_959005 := n1_; have HO_959006 := n2_; have BK950 := n3_; have BK951 := n4_; have BK958 := n5_; have HL970_0 := n6_; have HL972_0 := n7_; have HB := n8_; have HO976 := n9_; have HNB979 := n10_; clear n0_ n1_ n2_ n3_ n4_ n5_ n6_ n7_ n8_ n9_ n10_; clear ho hb hg hat))
     repeat ((first | go_quiet (first | ((with_reducible refine gate_builtin (b := .append) (xs := #[.tmp 98, .tmp 105]) rfl ?_); (try (refine gate_guard (by rfl) ?_; dsimp only)); at_builtin; refine Kd.R_append (Kd.int .i64) (w0 := w) w.heap.size rfl (.tmp 98) (.tmp 105) 22 3 (.int .i64 0) 8 rfl Try.underlying22 info3 rfl (by decide) (by omega) (.slice (some ad969) x13_1.length co66) x13_1 (wrap64 ((wrap64 ((wrap64 ((wrap64 (Int.tdiv (rd x13_1 (ji33)) a0_0)) + (rd (rd_L1 t961 (rd l3 x40_1)) 1))) * a0_0)) + (wrap64 ((Int.tmod (rd x13_1 (ji33)) a0_0) + (rd (rd_L1 t961 (rd l3 x40_1)) 0))))) [.int .i64 (wrap64 ((wrap64 ((wrap64 ((wrap64 (Int.tdiv (rd x13_1 (ji33)) a0_0)) + (rd (rd_L1 t961 (rd l3 x40_1)) 1))) * a0_0)) + (wrap64 ((Int.tmod (rd x13_1 (ji33)) a0_0) + (rd (rd_L1 t961 (rd l3 x40_1)) 0)))))] (fun k_ => some k_ ≠ (v953 : Value).ownBlock) (fun _ => False) rfl rfl ?aP (fun _ hk => hk.elim) ?aF ?aO ?aB ?aS ?aL ?_; (case aP => exact rfl); (case aB => exact zam2); (case aF => exact (fun k_ hk => Kd.fresh' (Kd.R_lt zam12) k_ hk)); (case aO => exact zam13); (case aS => exact (below_size zam2)); (case aL => have := LMc65.out; omega); intro v975 w71 ho hb hg hat; rw [← Ny974.out] at ho; have n0_ := Aside0.mk (Kd.S_after (ok := (fun k_ => some k_ ≠ (v953 : Value).ownBlock ∧ some k_ ≠ (v956 : Value).ownBlock ∧ k_ ≠ (rngOut na979_ nb979_ k_))) zam26 hg hat); have n1_ := Aside0.mk (Kd.R_after (ok := (fun _ => True)) zam27 hg hat); have n2_ := Aside0.mk (Kd.S_after (ok := (fun k_ => some k_ ≠ (.slice (some ad970) t961.length co70 : Value).ownBlock ∧ some k_ ≠ (v953 : Value).ownBlock ∧ k_ ≠ (rngIn na979_ nb979_ k_))) zam25 hg hat); have n3_ := Aside0.mk (blk_grown (g := gb950) (o := .cells #[.int .i64 a0_0, .int .i64 a0_1, .slice A0_2 l0_2.length c0_2] 30 (0, 0)) zam3 hg (Kd.R_ne HO_13.out BK950.out (by decide))); have n4_ := Aside0.mk (blk_grown (g := gb951) (o := .cells #[.int .i64 a1_0, .int .i64 a1_1] 32 (0, 0)) zam4 hg (Kd.R_ne HO_13.out BK951.out (by decide))); have n5_ := Aside0.mk (blk_grown (g := gb958) (o := .cells #[.int .i64 a0_0, .int .i64 a0_1, .slice A0_2 l0_2.length c0_2, .int .i64 a1_0, .int .i64 a1_1, v953, v956] 84 (0, 0)) zam6 hg (Kd.R_ne HO_13.out BK958.out (by decide))); have n6_ := Aside0.mk (Kd.R_after (ok := (fun k_ => some k_ ≠ (.slice (some ad970) t961.length co70 : Value).ownBlock ∧ some k_ ≠ (v953 : Value).ownBlock ∧ some k_ ≠ (v956 : Value).ownBlock ∧ k_ ≠ (rngOut na979_ nb979_ k_))) zam22 hg hat); have n7_ := Aside0.mk (Kd.R_after (ok := (fun k_ => some k_ ≠ (.slice (some ad970) t961.length co70 : Value).ownBlock ∧ some k_ ≠ (v953 : Value).ownBlock ∧ some k_ ≠ (v956 : Value).ownBlock ∧ k_ ≠ (rngOut na979_ nb979_ k_))) zam21 hg hat); have n8_ := Aside0.mk (hb); have n9_ := Aside0.mk (ho); have n10_ := Aside0.mk (show nb979_ ≤ w71.heap.size from zam5); clear HO_12; clear HO_959005; clear HO_959006; clear BK950; clear BK951; clear BK958; clear HL970_0; clear HL972_0; clear HB; clear HNB979; clear HO_13; have HO_12 := n0_; have HO_959005 := n1_; have HO_959006 := n2_; have BK950 := n3_; have BK951 := n4_; have BK958 := n5_; have HL970_0 := n6_; have HL972_0 := n7_; have HB := n8_; have HO976 := n9_; have HNB979 := n10_; clear n0_ n1_ n2_ n3_ n4_ n5_ n6_ n7_ n8_ n9_ n10_; clear ho hb hg hat)) | (refine wp_region_quiet_lit (by kernel_rfl) (by kernel_rfl) ?_; (repeat (any_goals (first | go_big_quiet_step (first | ((with_reducible refine gate_builtin (b := .append) (xs := #[.tmp 98, .tmp 105]) rfl ?_); (try (refine gate_guard (by rfl) ?_; dsimp only)); at_builtin; refine Kd.R_append (Kd.int .i64) (w0 := w) w.heap.size rfl (.tmp 98) (.tmp 105) 22 3 (.int .i64 0) 8 rfl Try.underlying22 info3 rfl (by decide) (by omega) (.slice (some ad969) x13_1.length co66) x13_1 (wrap64 ((wrap64 ((wrap64 ((wrap64 (Int.tdiv (rd x13_1 (ji33)) a0_0)) + (rd (rd_L1 t961 (rd l3 x40_1)) 1))) * a0_0)) + (wrap64 ((Int.tmod (rd x13_1 (ji33)) a0_0) + (rd (rd_L1 t961 (rd l3 x40_1)) 0))))) [.int .i64 (wrap64 ((wrap64 ((wrap64 ((wrap64 (Int.tdiv (rd x13_1 (ji33)) a0_0)) + (rd (rd_L1 t961 (rd l3 x40_1)) 1))) * a0_0)) + (wrap64 ((Int.tmod (rd x13_1 (ji33)) a0_0) + (rd (rd_L1 t961 (rd l3 x40_1)) 0)))))] (fun k_ => some k_ ≠ (v953 : Value).ownBlock) (fun _ => False) rfl rfl ?aP (fun _ hk => hk.elim) ?aF ?aO ?aB ?aS ?aL ?_; (case aP => exact rfl); (case aB => exact zam2); (case aF => exact (fun k_ hk => Kd.fresh' (Kd.R_lt zam12) k_ hk)); (case aO => exact zam13); (case aS => exact (below_size zam2)); (case aL => have := LMc65.out; omega); intro v975 w71 ho hb hg hat; rw [← Ny974.out] at ho; have n0_ := Aside0.mk (Kd.S_after (ok := (fun k_ => some k_ ≠ (v953 : Value).ownBlock ∧ some k_ ≠ (v956 : Value).ownBlock ∧ k_ ≠ (rngOut na979_ nb979_ k_))) zam26 hg hat); have n1_ := Aside0.mk (Kd.R_after (ok := (fun _ => True)) zam27 hg hat); have n2_ := Aside0.mk (Kd.S_after (ok := (fun k_ => some k_ ≠ (.slice (some ad970) t961.length co70 : Value).ownBlock ∧ some k_ ≠ (v953 : Value).ownBlock ∧ k_ ≠ (rngIn na979_ nb979_ k_))) zam25 hg hat); have n3_ := Aside0.mk (blk_grown (g := gb950) (o := .cells #[.int .i64 a0_0, .int .i64 a0_1, .slice A0_2 l0_2.length c0_2] 30 (0, 0)) zam3 hg (Kd.R_ne HO_13.out BK950.out (by decide))); have n4_ := Aside0.mk (blk_grown (g := gb951) (o := .cells #[.int .i64 a1_0, .int .i64 a1_1] 32 (0, 0)) zam4 hg (Kd.R_ne HO_13.out BK951.out (by decide))); have n5_ := Aside0.mk (blk_grown (g := gb958) (o := .cells #[.int .i64 a0_0, .int .i64 a0_1, .slice A0_2 l0_2.length c0_2, .int .i64 a1_0, .int .i64 a1_1, v953, v956] 84 (0, 0)) zam6 hg (Kd.R_ne HO_13.out BK958.out (by decide))); have n6_ := Aside0.mk (Kd.R_after (ok := (fun k_ => some k_ ≠ (.slice (some ad970) t961.length co70 : Value).ownBlock ∧ some k_ ≠ (v953 : Value).ownBlock ∧ some k_ ≠ (v956 : Value).ownBlock ∧ k_ ≠ (rngOut na979_ nb979_ k_))) zam22 hg hat); have n7_ := Aside0.mk (Kd.R_after (ok := (fun k_ => some k_ ≠ (.slice (some ad970) t961.length co70 : Value).ownBlock ∧ some k_ ≠ (v953 : Value).ownBlock ∧ some k_ ≠ (v956 : Value).ownBlock ∧ k_ ≠ (rngOut na979_ nb979_ k_))) zam21 hg hat); have n8_ := Aside0.mk (hb); have n9_ := Aside0.mk (ho); have n10_ := Aside0.mk (show nb979_ ≤ w71.heap.size from zam5); clear HO_12; clear HO_959005; clear HO_959006; clear BK950; clear BK951; clear BK958; clear HL970_0; clear HL972_0; clear HB; clear HNB979; clear HO_13; have HO_12 := n0_; have HO_959005 := n1_; have HO_959006 := n2_; have BK950 := n3_; have BK951 := n4_; have BK958 := n5_; have HL970_0 := n6_; have HL972_0 := n7_; have HB := n8_; have HO976 := n9_; have HNB979 := n10_; clear n0_ n1_ n2_ n3_ n4_ n5_ n6_ n7_ n8_ n9_ n10_; clear ho hb hg hat)) | quiet_step (first | ((with_reducible refine gate_builtin (b := .append) (xs := #[.tmp 98, .tmp 105]) rfl ?_); (try (refine gate_guard (by rfl) ?_; dsimp only)); at_builtin; refine Kd.R_append (Kd.int .i64) (w0 := w) w.heap.size rfl (.tmp 98) (.tmp 105) 22 3 (.int .i64 0) 8 rfl Try.underlying22 info3 rfl (by decide) (by omega) (.slice (some ad969) x13_1.length co66) x13_1 (wrap64 ((wrap64 ((wrap64 ((wrap64 (Int.tdiv (rd x13_1 (ji33)) a0_0)) + (rd (rd_L1 t961 (rd l3 x40_1)) 1))) * a0_0)) + (wrap64 ((Int.tmod (rd x13_1 (ji33)) a0_0) + (rd (rd_L1 t961 (rd l3 x40_1)) 0))))) [.int .i64 (wrap64 ((wrap64 ((wrap64 ((wrap64 (Int.tdiv (rd x13_1 (ji33)) a0_0)) + (rd (rd_L1 t961 (rd l3 x40_1)) 1))) * a0_0)) + (wrap64 ((Int.tmod (rd x13_1 (ji33)) a0_0) + (rd (rd_L1 t961 (rd l3 x40_1)) 0)))))] (fun k_ => some k_ ≠ (v953 : Value).ownBlock) (fun _ => False) rfl rfl ?aP (fun _ hk => hk.elim) ?aF ?aO ?aB ?aS ?aL ?_; (case aP => exact rfl); (case aB => exact zam2); (case aF => exact (fun k_ hk => Kd.fresh' (Kd.R_lt zam12) k_ hk)); (case aO => exact zam13); (case aS => exact (below_size zam2)); (case aL => have := LMc65.out; omega); intro v975 w71 ho hb hg hat; rw [← Ny974.out] at ho; have n0_ := Aside0.mk (Kd.S_after (ok := (fun k_ => some k_ ≠ (v953 : Value).ownBlock ∧ some k_ ≠ (v956 : Value).ownBlock ∧ k_ ≠ (rngOut na979_ nb979_ k_))) zam26 hg hat); have n1_ := Aside0.mk (Kd.R_after (ok := (fun _ => True)) zam27 hg hat); have n2_ := Aside0.mk (Kd.S_after (ok := (fun k_ => some k_ ≠ (.slice (some ad970) t961.length co70 : Value).ownBlock ∧ some k_ ≠ (v953 : Value).ownBlock ∧ k_ ≠ (rngIn na979_ nb979_ k_))) zam25 hg hat); have n3_ := Aside0.mk (blk_grown (g := gb950) (o := .cells #[.int .i64 a0_0, .int .i64 a0_1, .slice A0_2 l0_2.length c0_2] 30 (0, 0)) zam3 hg (Kd.R_ne HO_13.out BK950.out (by decide))); have n4_ := Aside0.mk (blk_grown (g := gb951) (o := .cells #[.int .i64 a1_0, .int .i64 a1_1] 32 (0, 0)) zam4 hg (Kd.R_ne HO_13.out BK951.out (by decide))); have n5_ := Aside0.mk (blk_grown (g := gb958) (o := .cells #[.int .i64 a0_0, .int .i64 a0_1, .slice A0_2 l0_2.length c0_2, .int .i64 a1_0, .int .i64 a1_1, v953, v956] 84 (0, 0)) zam6 hg (Kd.R_ne HO_13.out BK958.out (by decide))); have n6_ := Aside0.mk (Kd.R_after (ok := (fun k_ => some k_ ≠ (.slice (some ad970) t961.length co70 : Value).ownBlock ∧ some k_ ≠ (v953 : Value).ownBlock ∧ some k_ ≠ (v956 : Value).ownBlock ∧ k_ ≠ (rngOut na979_ nb979_ k_))) zam22 hg hat); have n7_ := Aside0.mk (Kd.R_after (ok := (fun k_ => some k_ ≠ (.slice (some ad970) t961.length co70 : Value).ownBlock ∧ some k_ ≠ (v953 : Value).ownBlock ∧ some k_ ≠ (v956 : Value).ownBlock ∧ k_ ≠ (rngOut na979_ nb979_ k_))) zam21 hg hat); have n8_ := Aside0.mk (hb); have n9_ := Aside0.mk (ho); have n10_ := Aside0.mk (show nb979_ ≤ w71.heap.size from zam5); clear HO_12; clear HO_959005; clear HO_959006; clear BK950; clear BK951; clear BK958; clear HL970_0; clear HL972_0; clear HB; clear HNB979; clear HO_13; have HO_12 := n0_; have HO_959005 := n1_; have HO_959006 := n2_; have BK950 := n3_; have BK951 := n4_; have BK958 := n5_; have HL970_0 := n6_; have HL972_0 := n7_; have HB := n8_; have HO976 := n9_; have HNB979 := n10_; clear n0_ n1_ n2_ n3_ n4_ n5_ n6_ n7_ n8_ n9_ n10_; clear ho hb hg hat))))); all_goals (refine wpQuiet_nil ?_; intro _ hw2_; obtain ⟨nq, hw3_⟩ := hw2_; subst hw3_))); try go_wp2_with (first | ((with_reducible refine gate_builtin (b := .append) (xs := #[.tmp 98, .tmp 105]) rfl ?_); (try (refine gate_guard (by rfl) ?_; dsimp only)); at_builtin; refine Kd.R_append (Kd.int .i64) (w0 := w) w.heap.size rfl (.tmp 98) (.tmp 105) 22 3 (.int .i64 0) 8 rfl Try.underlying22 info3 rfl (by decide) (by omega) (.slice (some ad969) x13_1.length co66) x13_1 (wrap64 ((wrap64 ((wrap64 ((wrap64 (Int.tdiv (rd x13_1 (ji33)) a0_0)) + (rd (rd_L1 t961 (rd l3 x40_1)) 1))) * a0_0)) + (wrap64 ((Int.tmod (rd x13_1 (ji33)) a0_0) + (rd (rd_L1 t961 (rd l3 x40_1)) 0))))) [.int .i64 (wrap64 ((wrap64 ((wrap64 ((wrap64 (Int.tdiv (rd x13_1 (ji33)) a0_0)) + (rd (rd_L1 t961 (rd l3 x40_1)) 1))) * a0_0)) + (wrap64 ((Int.tmod (rd x13_1 (ji33)) a0_0) + (rd (rd_L1 t961 (rd l3 x40_1)) 0)))))] (fun k_ => some k_ ≠ (v953 : Value).ownBlock) (fun _ => False) rfl rfl ?aP (fun _ hk => hk.elim) ?aF ?aO ?aB ?aS ?aL ?_; (case aP => exact rfl); (case aB => exact zam2); (case aF => exact (fun k_ hk => Kd.fresh' (Kd.R_lt zam12) k_ hk)); (case aO => exact zam13); (case aS => exact (below_size zam2)); (case aL => have := LMc65.out; omega); intro v975 w71 ho hb hg hat; rw [← Ny974.out] at ho; have n0_ := Aside0.mk (Kd.S_after (ok := (fun k_ => some k_ ≠ (v953 : Value).ownBlock ∧ some k_ ≠ (v956 : Value).ownBlock ∧ k_ ≠ (rngOut na979_ nb979_ k_))) zam26 hg hat); have n1_ := Aside0.mk (Kd.R_after (ok := (fun _ => True)) zam27 hg hat); have n2_ := Aside0.mk (Kd.S_after (ok := (fun k_ => some k_ ≠ (.slice (some ad970) t961.length co70 : Value).ownBlock ∧ some k_ ≠ (v953 : Value).ownBlock ∧ k_ ≠ (rngIn na979_ nb979_ k_))) zam25 hg hat); have n3_ := Aside0.mk (blk_grown (g := gb950) (o := .cells #[.int .i64 a0_0, .int .i64 a0_1, .slice A0_2 l0_2.length c0_2] 30 (0, 0)) zam3 hg (Kd.R_ne HO_13.out BK950.out (by decide))); have n4_ := Aside0.mk (blk_grown (g := gb951) (o := .cells #[.int .i64 a1_0, .int .i64 a1_1] 32 (0, 0)) zam4 hg (Kd.R_ne HO_13.out BK951.out (by decide))); have n5_ := Aside0.mk (blk_grown (g := gb958) (o := .cells #[.int .i64 a0_0, .int .i64 a0_1, .slice A0_2 l0_2.length c0_2, .int .i64 a1_0, .int .i64 a1_1, v953, v956] 84 (0, 0)) zam6 hg (Kd.R_ne HO_13.out BK958.out (by decide))); have n6_ := Aside0.mk (Kd.R_after (ok := (fun k_ => some k_ ≠ (.slice (some ad970) t961.length co70 : Value).ownBlock ∧ some k_ ≠ (v953 : Value).ownBlock ∧ some k_ ≠ (v956 : Value).ownBlock ∧ k_ ≠ (rngOut na979_ nb979_ k_))) zam22 hg hat); have n7_ := Aside0.mk (Kd.R_after (ok := (fun k_ => some k_ ≠ (.slice (some ad970) t961.length co70 : Value).ownBlock ∧ some k_ ≠ (v953 : Value).ownBlock ∧ some k_ ≠ (v956 : Value).ownBlock ∧ k_ ≠ (rngOut na979_ nb979_ k_))) zam21 hg hat); have n8_ := Aside0.mk (hb); have n9_ := Aside0.mk (ho); have n10_ := Aside0.mk (show nb979_ ≤ w71.heap.size from zam5); clear HO_12; clear HO_959005; clear HO_959006; clear BK950; clear BK951; clear BK958; clear HL970_0; clear HL972_0; clear HB; clear HNB979; clear HO_13; have HO_12 := n0_; have HO_959005 := n1_; have HO_959006 := n2_; have BK950 := n3_; have BK951 := n4_; have BK958 := n5_; have HL970_0 := n6_; have HL972_0 := n7_; have HB := n8_; have HO976 := n9_; have HNB979 := n10_; clear n0_ n1_ n2_ n3_ n4_ n5_ n6_ n7_ n8_ n9_ n10_; clear ho hb hg hat)))
     go_roundg kj28
     case measure => have := HK1.out; have := HJ28.out; omega
     case rel => exact ⟨(y974), (wrap64 (x40_1 + 1)), zam32, H', ⟨by have := HK1.out; have := HJ28.out; omega⟩, ⟨by (with_reducible repeat (first | apply Kd.S_alloc | apply Kd.S_drewN | apply Kd.S_drew)); exact Kd.S_mono HO_12.out (fun _ hk => ⟨hk.2, ⟨hk.1.1, ⟨hk.1.2.1, hk.1.2.2⟩⟩⟩)⟩, ⟨by first | exact HO976.out | ((with_reducible repeat (first | apply Kd.R_alloc | apply Kd.R_drewN | apply Kd.R_drew)); exact HO976.out)⟩, ⟨by (with_reducible repeat (first | apply Kd.R_alloc | apply Kd.R_drewN | apply Kd.R_drew)); exact Kd.R_mono HO_959005.out (fun _ hk => hk.2)⟩, ⟨by (with_reducible repeat (first | apply Kd.S_alloc | apply Kd.S_drewN | apply Kd.S_drew)); exact Kd.S_mono HO_959006.out (fun _ hk => ⟨hk.1.1, ⟨hk.2, ⟨hk.1.2.1, hk.1.2.2⟩⟩⟩)⟩, ⟨zam3⟩, ⟨zam4⟩, ⟨zam6⟩, ⟨zam31⟩, ⟨zam2⟩⟩

end Go.Proofs.Ytbecdckdbeoomaa.Q

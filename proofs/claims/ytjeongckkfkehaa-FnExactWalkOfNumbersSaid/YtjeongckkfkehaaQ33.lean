/- Written by a program of this session: functions of the translation as plain Lean functions, each with a proof that the call does what the plain function says; the conditions stand in each theorem. -/
import Derived.Test.YtjeongckkfkehaaQ0
import Derived.Test.YtjeongckkfkehaaQ4
import Derived.Test.YtjeongckkfkehaaQ18
namespace Go.Proofs.Ytjeongckkfkehaa.Q
open Go.RowKit Go.Proofs.YtjeongckkfkehaaW.PrintWords Go.Proofs.YtjeongckkfkehaaW.PrintLast Go.Proofs.YtjeongckkfkehaaW.PrintMore
attribute [local go_sem] max2_int min2_int max_two min_two max_three min_three max_four min_four   -- for this text's walks alone
set_option linter.unusedVariables false
set_option linter.unusedSimpArgs false

theorem zah1 {p : Prop} (h : p := by repeat (first | (with_reducible first | exact HB.out | apply below_alloc | apply pw_below_drewN | apply below_drew1 | refine below_set ?_ GE897.out | refine below_set ?_ GE898.out | refine below_set ?_ GE905.out) | exact HB.out)) : p := h
theorem zah2 {p : Prop} (h : p := by (with_reducible repeat (first | refine blk_drewN ?_ _ | refine blk_drew ?_ | refine blk_alloc ?_ _)); exact BK897.out) : p := h
theorem zah3 {p : Prop} (h : p := by repeat (first | (with_reducible first | exact HB.out | apply below_alloc | apply pw_below_drewN | apply below_drew1 | refine below_set ?_ GE897.out | refine below_set ?_ GE898.out) | exact HB.out)) : p := h
theorem zah4 {p : Prop} (h : p := by (with_reducible repeat (first | refine blk_drewN ?_ _ | refine blk_drew ?_ | refine blk_alloc ?_ _)); exact BK898.out) : p := h
theorem zah5 {p : Prop} (h : p := by (with_reducible repeat (first | refine blk_drewN ?_ _ | refine blk_drew ?_ | refine blk_alloc ?_ _)); exact BK905.out) : p := h
theorem zah6 {p : Prop} (h : p := by repeat (first | (with_reducible first | exact HB.out | apply below_alloc | apply pw_below_drewN | apply below_drew1 | refine below_set ?_ GE897.out) | exact HB.out)) : p := h
theorem zah7 {p : Prop} (h : p := by repeat (first | (with_reducible first | exact HB.out | apply below_alloc | apply pw_below_drewN | apply below_drew1) | exact HB.out)) : p := h
theorem zah8 {p : Prop} (h : p := by first | (with_reducible assumption) | assumption) : p := h
theorem zah9 {p : Prop} (h : p := by (with_reducible repeat (first | apply Kd.R_alloc | apply Kd.R_drewN | apply Kd.R_drew)); exact HO_906005.out) : p := h
theorem zah10 {p : Prop} (h : p := by first | exact Kd.R_nil _ _ _ _ _ | exact Kd.N_nil _ _ _ _ _ | exact Kd.V_nil _ _ _ _ _ | exact Kd.Q_nil _ _ _ _ _ | exact Kd.S_nil _ _ _ _ _) : p := h
theorem zah11 {p : Prop} (h : p := by repeat (first | exact (Kd.C_below HR0_2.out HB.out) | (with_reducible refine Kd.C_alloc ?_ _) | (with_reducible refine Kd.C_drewN ?_ _) | (with_reducible refine Kd.C_drew ?_))) : p := h
theorem zah12 {p : Prop} (h : p := by (with_reducible repeat (first | apply Kd.S_alloc | apply Kd.S_drewN | apply Kd.S_drew)); exact HO_906006.out) : p := h
theorem zah13 {p : Prop} (h : p := by (try simp only [List.map_toArray, List.map_cons, List.map_nil]); first | done | rfl | (simp only [List.length_drop, List.length_take]; rfl)) : p := h
theorem zah14 {p : Prop} (h : p := by first | rfl | (simp; done) | (simp [*]; done)) : p := h
theorem zah15 {p : Prop} (h : p := by first | rfl | (simp [errW_none, errW_some] <;> rfl) | (simp [*, errW_none, errW_some] <;> rfl)) : p := h
theorem zah16 {p : Prop} (h : p := by (with_reducible repeat (first | apply Kd.S_alloc | apply Kd.S_drewN | apply Kd.S_drew)); exact Kd.S_mono HO_906006.out (fun _ hk => ⟨hk.2, hk.1⟩)) : p := h
theorem zah17 {p : Prop} (h : p := by (try simp only [hl13_2]); (try simp only [hl13_3]); (with_reducible repeat (first | refine blk_drewN ?_ _ | refine blk_drew ?_ | refine blk_alloc ?_ _)); exact BK905.out) : p := h
theorem zah18 {p : Prop} (h : p := by (try simp only [hl13_2]); (try simp only [hl13_3]); (with_reducible repeat (first | refine blk_drewN ?_ _ | refine blk_drew ?_ | refine blk_alloc ?_ _)); exact BK898.out) : p := h
theorem zah19 {p : Prop} (h : p := by (try simp only [hl13_2]); (try simp only [hl13_3]); (with_reducible repeat (first | refine blk_drewN ?_ _ | refine blk_drew ?_ | refine blk_alloc ?_ _)); exact BK897.out) : p := h
theorem zah20 {p : Prop} (h : p := by repeat (first | exact (Kd.S_reads' HO_906006.out).2.2 | (with_reducible refine Kd.C_alloc ?_ _) | (with_reducible refine Kd.C_drewN ?_ _) | (with_reducible refine Kd.C_drew ?_))) : p := h
theorem zah21 {p : Prop} (h : p := by repeat (first | exact (Kd.R_reads' HO_906005.out).2.2 | (with_reducible refine Kd.C_alloc ?_ _) | (with_reducible refine Kd.C_drewN ?_ _) | (with_reducible refine Kd.C_drew ?_))) : p := h
theorem zah22 {p : Prop} (h : p := by repeat (first | exact (Kd.R_reads' HO_13.out).2.2 | (with_reducible refine Kd.C_alloc ?_ _) | (with_reducible refine Kd.C_drewN ?_ _) | (with_reducible refine Kd.C_drew ?_))) : p := h
theorem zah23 {p : Prop} (h : p := by (try simp only [hl13_2]); (try simp only [hl13_3]); (with_reducible repeat (first | apply Kd.R_alloc | apply Kd.R_drewN | apply Kd.R_drew)); exact HO_13.out) : p := h
theorem zah24 {p : Prop} (h : p := by (with_reducible repeat (first | apply Kd.R_alloc | apply Kd.R_drewN | apply Kd.R_drew)); exact Kd.R_mono HO_906005.out (fun _ hk => ⟨trivial, hk⟩)) : p := h
theorem zah25 {p : Prop} (h : p := by (try simp only [hl13_2]); (with_reducible repeat (first | refine blk_drewN ?_ _ | refine blk_drew ?_ | refine blk_alloc ?_ _)); exact BK905.out) : p := h
theorem zah26 {p : Prop} (h : p := by (try simp only [hl13_2]); (with_reducible repeat (first | refine blk_drewN ?_ _ | refine blk_drew ?_ | refine blk_alloc ?_ _)); exact BK898.out) : p := h
theorem zah27 {p : Prop} (h : p := by (try simp only [hl13_2]); (with_reducible repeat (first | refine blk_drewN ?_ _ | refine blk_drew ?_ | refine blk_alloc ?_ _)); exact BK897.out) : p := h
theorem zah28 {p : Prop} (h : p := by (try simp only [hl13_2]); (with_reducible repeat (first | apply Kd.R_alloc | apply Kd.R_drewN | apply Kd.R_drew)); exact HO_13.out) : p := h
theorem zah29 {p : Prop} (h : p := by rw [hg]; exact Nat.ne_of_lt (blk_lt (g := gb897) (o := .cells #[.int .i64 a0_0, .int .i64 a0_1, .slice A0_2 l0_2.length c0_2] 30 (0, 0)) zah2)) : p := h
theorem zah30 {p : Prop} (h : p := by rw [hg]; exact Nat.ne_of_gt (blk_lt (g := gb897) (o := .cells #[.int .i64 a0_0, .int .i64 a0_1, .slice A0_2 l0_2.length c0_2] 30 (0, 0)) zah2)) : p := h
theorem zah31 {p : Prop} (h : p := by rw [hg]; exact (below_size zah7)) : p := h
theorem zah32 {p : Prop} (h : p := by rw [hg]; exact (below_size zah6)) : p := h
/-! ### impl_WalkOfNumbers: function 37 -/
mutual
def impl_WalkOfNumbers.l0 : Nat → List Int → Int → List Int → Int → Int → Int → Int → List Int → Int → Int → List Int → List (List Int) → Option (List Int × Bool)
 | 0, _, _, _, _, _, _, _, _, _, _, _, _ => none
 | k + 1, x2, x10, x35, x36, x37, x906000, x906001, x906002, x906003, x906004, x906005, x906006 => if x37 < x36 then (if 0 ≤ x37 then (if x37 < (x35.length : Int) then (if (rd x35 x37) < 0 then (impl_WalkOfNumbers.j1 k x2 x10 (rd x35 x37) x35 x36 x37 true x906000 x906001 x906002 x906003 x906004 x906005 x906006) else (impl_WalkOfNumbers.j1 k x2 x10 (rd x35 x37) x35 x36 x37 (decide ((rd x35 x37) > (x2.length : Int))) x906000 x906001 x906002 x906003 x906004 x906005 x906006)) else (none)) else (none)) else (if 0 ≤ x10 then (if (x10 : Int).toNat ≤ 35184372088832 then ((some (List.replicate (x10 : Int).toNat 0 : List Int)).bind fun y909 => (impl_WalkOfNumbers.l1 k x2 x10 y909 (y909.length : Int) 0 x906000 x906001 x906002 x906003 x906004 x906005 x906006)) else (none)) else (none))
def impl_WalkOfNumbers.j1 : Nat → List Int → Int → Int → List Int → Int → Int → Bool → Int → Int → List Int → Int → Int → List Int → List (List Int) → Option (List Int × Bool)
 | 0, _, _, _, _, _, _, _, _, _, _, _, _, _, _ => none
 | k + 1, x2, x10, x12, x35, x36, x37, x48, x906000, x906001, x906002, x906003, x906004, x906005, x906006 => if x48 = true then (some (([] : List Int), false)) else (if x12 > 0 then (impl_WalkOfNumbers.l0 k x2 (wrap64 (x10 + 1)) x35 x36 (wrap64 (x37 + 1)) x906000 x906001 x906002 x906003 x906004 x906005 x906006) else (impl_WalkOfNumbers.l0 k x2 x10 x35 x36 (wrap64 (x37 + 1)) x906000 x906001 x906002 x906003 x906004 x906005 x906006))
def impl_WalkOfNumbers.l1 : Nat → List Int → Int → List Int → Int → Int → Int → Int → List Int → Int → Int → List Int → List (List Int) → Option (List Int × Bool)
 | 0, _, _, _, _, _, _, _, _, _, _, _, _ => none
 | k + 1, x2, x10, x13, x57, x58, x906000, x906001, x906002, x906003, x906004, x906005, x906006 => if x58 < x57 then (if 0 ≤ x58 then (if x58 < (x13.length : Int) then (impl_WalkOfNumbers.l1 k x2 x10 (x13.set (x58 : Int).toNat (-1)) x57 (wrap64 (x58 + 1)) x906000 x906001 x906002 x906003 x906004 x906005 x906006) else (none)) else (none)) else (impl_WalkOfNumbers.l2 k x10 x13 x2 (x2.length : Int) 0 x906000 x906001 x906002 x906003 x906004 x906005 x906006)
def impl_WalkOfNumbers.l2 : Nat → Int → List Int → List Int → Int → Int → Int → Int → List Int → Int → Int → List Int → List (List Int) → Option (List Int × Bool)
 | 0, _, _, _, _, _, _, _, _, _, _, _, _ => none
 | k + 1, x10, x13, x65, x66, x67, x906000, x906001, x906002, x906003, x906004, x906005, x906006 => if x67 < x66 then (if 0 ≤ x67 then (if x67 < (x65.length : Int) then (if (rd x65 x67) = 0 then (impl_WalkOfNumbers.l2 k x10 x13 x65 x66 (wrap64 (x67 + 1)) x906000 x906001 x906002 x906003 x906004 x906005 x906006) else (if (rd x65 x67) > x10 then (some (([] : List Int), false)) else (if 0 ≤ (wrap64 ((rd x65 x67) - 1)) then (if (wrap64 ((rd x65 x67) - 1)) < (x13.length : Int) then (if (rd x13 (wrap64 ((rd x65 x67) - 1))) ≥ 0 then (some (([] : List Int), false)) else (impl_WalkOfNumbers.l2 k x10 (x13.set ((wrap64 ((rd x65 x67) - 1)) : Int).toNat x67) x65 x66 (wrap64 (x67 + 1)) x906000 x906001 x906002 x906003 x906004 x906005 x906006)) else (none)) else (none)))) else (none)) else (none)) else ((impl_graph_isWalk.f k x906000 x906001 x906002 x906003 x906004 x906005 x906006 x13).bind fun t913 => (if t913 = true then (some (x13, true)) else (some (([] : List Int), false))))
end
def impl_WalkOfNumbers.f (k : Nat) (a0_0 : Int) (a0_1 : Int) (l0_2 : List Int) (a1_0 : Int) (a1_1 : Int) (l2 : List Int) : Option (List Int × Bool) := (impl_graphOf.f k a0_0 a0_1 l0_2 a1_0 a1_1).bind fun bt899 => (if bt899.2.2 = true then (if (l2.length : Int) = (wrap64 (a0_0 * a0_1)) then (impl_WalkOfNumbers.l0 k l2 0 l2 (l2.length : Int) 0 a0_0 a0_1 l0_2 a1_0 a1_1 bt899.1 bt899.2.1) else (some (([] : List Int), false))) else (some (([] : List Int), false)))
set_option maxHeartbeats 8000000 in
set_option maxRecDepth 100000 in
theorem impl_WalkOfNumbers.calls (k : Nat) (a0_0 : Int) (a0_1 : Int) (A0_2 : Option Addr) (c0_2 : Nat) (l0_2 : List Int) (a1_0 : Int) (a1_1 : Int) (A2 : Option Addr) (c2 : Nat) (l2 : List Int) (r1 : List Int) (r2 : Bool) (w : World) (hr0_2 : Kd.C (Kd.int .i64) w A0_2 l0_2.length l0_2) (hc0_2 : l0_2.length ≤ c0_2) (hr2 : Kd.C (Kd.int .i64) w A2 l2.length l2) (hc2 : l2.length ≤ c2) (h : impl_WalkOfNumbers.f k a0_0 a0_1 l0_2 a1_0 a1_1 l2 = some (r1, r2)) :
  Calls Try.prog 37 #[.agg #[.int .i64 a0_0, .int .i64 a0_1, .slice A0_2 l0_2.length c0_2], .agg #[.int .i64 a1_0, .int .i64 a1_1], .slice A2 l2.length c2] w fun e w' => ∃ v0_ : Value, e = .returned (.tuple #[v0_, .bool r2]) ∧ Kd.R (Kd.int .i64) 3 w' w.heap.size (fun _ => True) v0_ r1 ∧ Below w.heap.size w w' := by
 have hu30 := Try.underlying30
 have hu32 := Try.underlying32
 have HR0_2 := Aside0.mk hr0_2
 have HC0_2 := Aside0.mk hc0_2
 clear hr0_2 hc0_2
 have HR2 := Aside0.mk hr2
 have HC2 := Aside0.mk hc2
 clear hr2 hc2
 have HB := Aside0.mk (Below.refl w.heap.size w)
 have H : ((impl_graphOf.f k a0_0 a0_1 l0_2 a1_0 a1_1).bind fun bt899 => (if bt899.2.2 = true then (if (l2.length : Int) = (wrap64 (a0_0 * a0_1)) then (impl_WalkOfNumbers.l0 k l2 0 l2 (l2.length : Int) 0 a0_0 a0_1 l0_2 a1_0 a1_1 bt899.1 bt899.2.1) else (some (([] : List Int), false))) else (some (([] : List Int), false)))) = some (r1, r2) := h
 clear h
 replace H := Option.bind_eq_some_iff.mp H
 obtain ⟨⟨t899, t902, t907⟩, A40, H⟩ := H
 replace H : (if t907 = true then (if (l2.length : Int) = (wrap64 (a0_0 * a0_1)) then (impl_WalkOfNumbers.l0 k l2 0 l2 (l2.length : Int) 0 a0_0 a0_1 l0_2 a1_0 a1_1 t899 t902) else (some (([] : List Int), false))) else (some (([] : List Int), false))) = some (r1, r2) := H
 have A4 := Aside0.mk A40
 clear A40
 by_cases c5 : t907 = true
 rotate_left
 ·replace c5 := Bool.eq_false_iff.mpr c5
  subst c5
  have H1 : (some (([] : List Int), false)) = some (r1, r2) := by rw [if_neg (show ¬ (false = true) by decide)] at H; exact H
  clear H
  have H := H1
  clear H1
  simp only [Option.some.injEq, Prod.mk.injEq] at H
  obtain ⟨rfl, rfl⟩ := H
  go_enter Try.func37, Try.ntmps37
  go_wp2_with (first | ((with_reducible refine gate_dst (N := 3) rfl ?_); (try (refine gate_guard (by rfl) ?_; dsimp only)); refine box_event ?hg (N := 3) ?hd (cs := #[.int .i64 a0_0, .int .i64 a0_1, .slice A0_2 l0_2.length c0_2]) (t := 30) ?hr ?_; (case hd => rfl); (case hg => rfl); (case hr => first | (go_simp; done) | (go_simp; rfl)); intro gb897 hg w61 hbox hb; have n0_ := Aside0.mk (below_step zah7 hb); have n1_ := Aside0.mk (hbox); have n2_ := Aside0.mk ((zah31 : w.heap.size ≤ gb897)); have n3_ := Aside0.mk ((zah31 : w.heap.size ≤ gb897)); clear HB; have HB := n0_; have BK897 := n1_; have GW897 := n2_; have GE897 := n3_; clear n0_ n1_ n2_ n3_; clear hb hbox hg) | ((with_reducible refine gate_dst (N := 4) rfl ?_); (try (refine gate_guard (by rfl) ?_; dsimp only)); refine box_event ?hg (N := 4) ?hd (cs := #[.int .i64 a1_0, .int .i64 a1_1]) (t := 32) ?hr ?_; (case hd => rfl); (case hg => rfl); (case hr => first | (go_simp; done) | (go_simp; rfl)); intro gb898 hg w62 hbox hb; have n0_ := Aside0.mk (blk_below (g := gb897) (o := .cells #[.int .i64 a0_0, .int .i64 a0_1, .slice A0_2 l0_2.length c0_2] 30 (0, 0)) zah2 hb); have n1_ := Aside0.mk (below_step zah6 hb); have n2_ := Aside0.mk (hbox); have n3_ := Aside0.mk ((zah32 : w.heap.size ≤ gb898)); have n4_ := Aside0.mk ((zah32 : w.heap.size ≤ gb898)); have n5_ := Aside0.mk ((zah29 : gb897 ≠ gb898)); have n6_ := Aside0.mk ((zah30 : gb898 ≠ gb897)); clear BK897; clear HB; have BK897 := n0_; have HB := n1_; have BK898 := n2_; have GW898 := n3_; have GE898 := n4_; have NB897_898 := n5_; have NB898_897 := n6_; clear n0_ n1_ n2_ n3_ n4_ n5_ n6_; clear hb hbox hg; have hnb63 := NB897_898.out; have hnc63 := NB898_897.out; have hcz64_0 : w62.cell? ⟨gb897, 0, none⟩ = some (.int .i64 a0_0) := (blk_cell BK897.out 0).trans rfl; have hcz64_1 : w62.cell? ⟨gb897, 1, none⟩ = some (.int .i64 a0_1) := (blk_cell BK897.out 1).trans rfl; have hcz64_2 : w62.cell? ⟨gb897, 2, none⟩ = some (.slice A0_2 l0_2.length c0_2) := (blk_cell BK897.out 2).trans rfl; have hfz64_0 := blk_frozen BK897.out 0; have hfz64_1 := blk_frozen BK897.out 1; have hfz64_2 := blk_frozen BK897.out 2; have hcz65_0 : w62.cell? ⟨gb898, 0, none⟩ = some (.int .i64 a1_0) := (blk_cell BK898.out 0).trans rfl; have hcz65_1 : w62.cell? ⟨gb898, 1, none⟩ = some (.int .i64 a1_1) := (blk_cell BK898.out 1).trans rfl; have hfz65_0 := blk_frozen BK898.out 0; have hfz65_1 := blk_frozen BK898.out 1) | ((with_reducible refine gate_callee (f := 50) rfl ?_); refine goesL_ (some 20) rfl rfl Try.func50 (by kernel_rfl) rfl #[.agg #[.int .i64 a0_0, .int .i64 a0_1, .slice A0_2 l0_2.length c0_2], .agg #[.int .i64 a1_0, .int .i64 a1_1]] rfl zah13 ?_; (with_reducible refine (impl_graphOf.calls k a0_0 a0_1 _ _ l0_2 a1_0 a1_1 t899 t902 false _ ?side1 ?side2 A4.out).mono ?_); (case side1 => exact zah11); (case side2 => exact HC0_2.out); rintro e w66 ⟨v900, v903, pv906, rfl, hgp, ho0, ho1, hb⟩; refine ⟨_, rfl, ?_⟩; obtain rfl := hgp.2 rfl; have n0_ := Aside0.mk (Kd.R_lower ho0 (below_size zah3)); have n1_ := Aside0.mk (Kd.S_lower ho1 (below_size zah3)); have n2_ := Aside0.mk (blk_below (g := gb897) (o := .cells #[.int .i64 a0_0, .int .i64 a0_1, .slice A0_2 l0_2.length c0_2] 30 (0, 0)) zah2 hb); have n3_ := Aside0.mk (blk_below (g := gb898) (o := .cells #[.int .i64 a1_0, .int .i64 a1_1] 32 (0, 0)) zah4 hb); have n4_ := Aside0.mk (below_step zah3 hb); clear BK897; clear BK898; clear HB; have HO901 := n0_; have HO904 := n1_; have BK897 := n2_; have BK898 := n3_; have HB := n4_; clear n0_ n1_ n2_ n3_ n4_; (try clear hb); (try clear hb2); (try clear hk); (try clear hi); (try clear ho0); (try clear ho1); (try clear hgp); (try clear hbox); (try clear hge); (try clear hna_); (try clear hnb_)))
  go_ret2
  exact ⟨_, zah15, zah10, zah3⟩
 subst c5
 have H1 : (if (l2.length : Int) = (wrap64 (a0_0 * a0_1)) then (impl_WalkOfNumbers.l0 k l2 0 l2 (l2.length : Int) 0 a0_0 a0_1 l0_2 a1_0 a1_1 t899 t902) else (some (([] : List Int), false))) = some (r1, r2) := by rw [if_pos rfl] at H; exact H
 clear H
 have H := H1
 clear H1
 by_cases c6 : (l2.length : Int) = (wrap64 (a0_0 * a0_1))
 rotate_left
 ·rw [if_neg c6] at H
  have c6b0 : ((l2.length : Int) == (wrap64 (a0_0 * a0_1))) = false := beq_eq_false_iff_ne.mpr c6
  have c6b1 : ((l2.length : Int) != (wrap64 (a0_0 * a0_1))) = true := bne_iff_ne.mpr c6
  simp only [Option.some.injEq, Prod.mk.injEq] at H
  obtain ⟨rfl, rfl⟩ := H
  go_enter Try.func37, Try.ntmps37
  go_wp2_with (first | ((with_reducible refine gate_dst (N := 3) rfl ?_); (try (refine gate_guard (by rfl) ?_; dsimp only)); refine box_event ?hg (N := 3) ?hd (cs := #[.int .i64 a0_0, .int .i64 a0_1, .slice A0_2 l0_2.length c0_2]) (t := 30) ?hr ?_; (case hd => rfl); (case hg => rfl); (case hr => first | (go_simp; done) | (go_simp; rfl)); intro gb897 hg w53 hbox hb; have n0_ := Aside0.mk (below_step zah7 hb); have n1_ := Aside0.mk (hbox); have n2_ := Aside0.mk ((zah31 : w.heap.size ≤ gb897)); have n3_ := Aside0.mk ((zah31 : w.heap.size ≤ gb897)); clear HB; have HB := n0_; have BK897 := n1_; have GW897 := n2_; have GE897 := n3_; clear n0_ n1_ n2_ n3_; clear hb hbox hg) | ((with_reducible refine gate_dst (N := 4) rfl ?_); (try (refine gate_guard (by rfl) ?_; dsimp only)); refine box_event ?hg (N := 4) ?hd (cs := #[.int .i64 a1_0, .int .i64 a1_1]) (t := 32) ?hr ?_; (case hd => rfl); (case hg => rfl); (case hr => first | (go_simp; done) | (go_simp; rfl)); intro gb898 hg w54 hbox hb; have n0_ := Aside0.mk (blk_below (g := gb897) (o := .cells #[.int .i64 a0_0, .int .i64 a0_1, .slice A0_2 l0_2.length c0_2] 30 (0, 0)) zah2 hb); have n1_ := Aside0.mk (below_step zah6 hb); have n2_ := Aside0.mk (hbox); have n3_ := Aside0.mk ((zah32 : w.heap.size ≤ gb898)); have n4_ := Aside0.mk ((zah32 : w.heap.size ≤ gb898)); have n5_ := Aside0.mk ((zah29 : gb897 ≠ gb898)); have n6_ := Aside0.mk ((zah30 : gb898 ≠ gb897)); clear BK897; clear HB; have BK897 := n0_; have HB := n1_; have BK898 := n2_; have GW898 := n3_; have GE898 := n4_; have NB897_898 := n5_; have NB898_897 := n6_; clear n0_ n1_ n2_ n3_ n4_ n5_ n6_; clear hb hbox hg; have hnb55 := NB897_898.out; have hnc55 := NB898_897.out; have hcz56_0 : w54.cell? ⟨gb897, 0, none⟩ = some (.int .i64 a0_0) := (blk_cell BK897.out 0).trans rfl; have hcz56_1 : w54.cell? ⟨gb897, 1, none⟩ = some (.int .i64 a0_1) := (blk_cell BK897.out 1).trans rfl; have hcz56_2 : w54.cell? ⟨gb897, 2, none⟩ = some (.slice A0_2 l0_2.length c0_2) := (blk_cell BK897.out 2).trans rfl; have hfz56_0 := blk_frozen BK897.out 0; have hfz56_1 := blk_frozen BK897.out 1; have hfz56_2 := blk_frozen BK897.out 2; have hcz57_0 : w54.cell? ⟨gb898, 0, none⟩ = some (.int .i64 a1_0) := (blk_cell BK898.out 0).trans rfl; have hcz57_1 : w54.cell? ⟨gb898, 1, none⟩ = some (.int .i64 a1_1) := (blk_cell BK898.out 1).trans rfl; have hfz57_0 := blk_frozen BK898.out 0; have hfz57_1 := blk_frozen BK898.out 1) | ((with_reducible refine gate_callee (f := 50) rfl ?_); refine goesL_ (some 20) rfl rfl Try.func50 (by kernel_rfl) rfl #[.agg #[.int .i64 a0_0, .int .i64 a0_1, .slice A0_2 l0_2.length c0_2], .agg #[.int .i64 a1_0, .int .i64 a1_1]] rfl zah13 ?_; (with_reducible refine (impl_graphOf.calls k a0_0 a0_1 _ _ l0_2 a1_0 a1_1 t899 t902 true _ ?side1 ?side2 A4.out).mono ?_); (case side1 => exact zah11); (case side2 => exact HC0_2.out); rintro e w58 ⟨v900, v903, pv906, rfl, hgp, ho0, ho1, hb⟩; refine ⟨_, rfl, ?_⟩; obtain ⟨gb905, rfl, hbox, hge⟩ := hgp.1 rfl; have n0_ := Aside0.mk (Kd.R_lower ho0 (below_size zah3)); have n1_ := Aside0.mk (Kd.S_lower ho1 (below_size zah3)); have n2_ := Aside0.mk (blk_below (g := gb897) (o := .cells #[.int .i64 a0_0, .int .i64 a0_1, .slice A0_2 l0_2.length c0_2] 30 (0, 0)) zah2 hb); have n3_ := Aside0.mk (blk_below (g := gb898) (o := .cells #[.int .i64 a1_0, .int .i64 a1_1] 32 (0, 0)) zah4 hb); have n4_ := Aside0.mk (hbox); have n5_ := Aside0.mk ((Nat.le_trans (by exact (below_size zah3)) hge : w.heap.size ≤ gb905)); have n6_ := Aside0.mk ((Nat.le_trans (by exact (below_size zah3)) hge : w.heap.size ≤ gb905)); have n7_ := Aside0.mk ((Nat.ne_of_lt (Nat.lt_of_lt_of_le (blk_lt (g := gb897) (o := .cells #[.int .i64 a0_0, .int .i64 a0_1, .slice A0_2 l0_2.length c0_2] 30 (0, 0)) zah2) hge) : gb897 ≠ gb905)); have n8_ := Aside0.mk ((Nat.ne_of_gt (Nat.lt_of_lt_of_le (blk_lt (g := gb897) (o := .cells #[.int .i64 a0_0, .int .i64 a0_1, .slice A0_2 l0_2.length c0_2] 30 (0, 0)) zah2) hge) : gb905 ≠ gb897)); have n9_ := Aside0.mk ((Nat.ne_of_lt (Nat.lt_of_lt_of_le (blk_lt (g := gb898) (o := .cells #[.int .i64 a1_0, .int .i64 a1_1] 32 (0, 0)) zah4) hge) : gb898 ≠ gb905)); have n10_ := Aside0.mk ((Nat.ne_of_gt (Nat.lt_of_lt_of_le (blk_lt (g := gb898) (o := .cells #[.int .i64 a1_0, .int .i64 a1_1] 32 (0, 0)) zah4) hge) : gb905 ≠ gb898)); have n11_ := Aside0.mk (below_step zah3 hb); clear BK897; clear BK898; clear HB; have HO901 := n0_; have HO904 := n1_; have BK897 := n2_; have BK898 := n3_; have BK905 := n4_; have GW905 := n5_; have GE905 := n6_; have NB897_905 := n7_; have NB905_897 := n8_; have NB898_905 := n9_; have NB905_898 := n10_; have HB := n11_; clear n0_ n1_ n2_ n3_ n4_ n5_ n6_ n7_ n8_ n9_ n10_ n11_; (try clear hb); (try clear hb2); (try clear hk); (try clear hi); (try clear ho0); (try clear ho1); (try clear hgp); (try clear hbox); (try clear hge); (try clear hna_); (try clear hnb_); have hnb59 := NB897_905.out; have hnc59 := NB905_897.out; have hcz60_0 : w58.cell? ⟨gb897, 0, none⟩ = some (.int .i64 a0_0) := (blk_cell BK897.out 0).trans rfl; have hcz60_1 : w58.cell? ⟨gb897, 1, none⟩ = some (.int .i64 a0_1) := (blk_cell BK897.out 1).trans rfl; have hcz60_2 : w58.cell? ⟨gb897, 2, none⟩ = some (.slice A0_2 l0_2.length c0_2) := (blk_cell BK897.out 2).trans rfl; have hfz60_0 := blk_frozen BK897.out 0; have hfz60_1 := blk_frozen BK897.out 1; have hfz60_2 := blk_frozen BK897.out 2))
  go_ret2
  exact ⟨_, zah15, zah10, zah1⟩
 rw [if_pos c6] at H
 have c6b0 : ((l2.length : Int) == (wrap64 (a0_0 * a0_1))) = true := beq_iff_eq.mpr c6
 have c6b1 : ((l2.length : Int) != (wrap64 (a0_0 * a0_1))) = false := bne_eq_false_iff_eq.mpr c6
 clear c6
 have H' := Aside0.mk H
 clear H
 go_enter Try.func37, Try.ntmps37
 go_wp2_with (first | ((with_reducible refine gate_dst (N := 3) rfl ?_); (try (refine gate_guard (by rfl) ?_; dsimp only)); refine box_event ?hg (N := 3) ?hd (cs := #[.int .i64 a0_0, .int .i64 a0_1, .slice A0_2 l0_2.length c0_2]) (t := 30) ?hr ?_; (case hd => rfl); (case hg => rfl); (case hr => first | (go_simp; done) | (go_simp; rfl)); intro gb897 hg w7 hbox hb; have n0_ := Aside0.mk (below_step zah7 hb); have n1_ := Aside0.mk (hbox); have n2_ := Aside0.mk ((zah31 : w.heap.size ≤ gb897)); have n3_ := Aside0.mk ((zah31 : w.heap.size ≤ gb897)); clear HB; have HB := n0_; have BK897 := n1_; have GW897 := n2_; have GE897 := n3_; clear n0_ n1_ n2_ n3_; clear hb hbox hg) | ((with_reducible refine gate_dst (N := 4) rfl ?_); (try (refine gate_guard (by rfl) ?_; dsimp only)); refine box_event ?hg (N := 4) ?hd (cs := #[.int .i64 a1_0, .int .i64 a1_1]) (t := 32) ?hr ?_; (case hd => rfl); (case hg => rfl); (case hr => first | (go_simp; done) | (go_simp; rfl)); intro gb898 hg w8 hbox hb; have n0_ := Aside0.mk (blk_below (g := gb897) (o := .cells #[.int .i64 a0_0, .int .i64 a0_1, .slice A0_2 l0_2.length c0_2] 30 (0, 0)) zah2 hb); have n1_ := Aside0.mk (below_step zah6 hb); have n2_ := Aside0.mk (hbox); have n3_ := Aside0.mk ((zah32 : w.heap.size ≤ gb898)); have n4_ := Aside0.mk ((zah32 : w.heap.size ≤ gb898)); have n5_ := Aside0.mk ((zah29 : gb897 ≠ gb898)); have n6_ := Aside0.mk ((zah30 : gb898 ≠ gb897)); clear BK897; clear HB; have BK897 := n0_; have HB := n1_; have BK898 := n2_; have GW898 := n3_; have GE898 := n4_; have NB897_898 := n5_; have NB898_897 := n6_; clear n0_ n1_ n2_ n3_ n4_ n5_ n6_; clear hb hbox hg; have hnb9 := NB897_898.out; have hnc9 := NB898_897.out; have hcz10_0 : w8.cell? ⟨gb897, 0, none⟩ = some (.int .i64 a0_0) := (blk_cell BK897.out 0).trans rfl; have hcz10_1 : w8.cell? ⟨gb897, 1, none⟩ = some (.int .i64 a0_1) := (blk_cell BK897.out 1).trans rfl; have hcz10_2 : w8.cell? ⟨gb897, 2, none⟩ = some (.slice A0_2 l0_2.length c0_2) := (blk_cell BK897.out 2).trans rfl; have hfz10_0 := blk_frozen BK897.out 0; have hfz10_1 := blk_frozen BK897.out 1; have hfz10_2 := blk_frozen BK897.out 2; have hcz11_0 : w8.cell? ⟨gb898, 0, none⟩ = some (.int .i64 a1_0) := (blk_cell BK898.out 0).trans rfl; have hcz11_1 : w8.cell? ⟨gb898, 1, none⟩ = some (.int .i64 a1_1) := (blk_cell BK898.out 1).trans rfl; have hfz11_0 := blk_frozen BK898.out 0; have hfz11_1 := blk_frozen BK898.out 1) | ((with_reducible refine gate_callee (f := 50) rfl ?_); refine goesL_ (some 20) rfl rfl Try.func50 (by kernel_rfl) rfl #[.agg #[.int .i64 a0_0, .int .i64 a0_1, .slice A0_2 l0_2.length c0_2], .agg #[.int .i64 a1_0, .int .i64 a1_1]] rfl zah13 ?_; (with_reducible refine (impl_graphOf.calls k a0_0 a0_1 _ _ l0_2 a1_0 a1_1 t899 t902 true _ ?side1 ?side2 A4.out).mono ?_); (case side1 => exact zah11); (case side2 => exact HC0_2.out); rintro e w12 ⟨v900, v903, pv906, rfl, hgp, ho0, ho1, hb⟩; refine ⟨_, rfl, ?_⟩; obtain ⟨gb905, rfl, hbox, hge⟩ := hgp.1 rfl; have n0_ := Aside0.mk (Kd.R_lower ho0 (below_size zah3)); have n1_ := Aside0.mk (Kd.S_lower ho1 (below_size zah3)); have n2_ := Aside0.mk (blk_below (g := gb897) (o := .cells #[.int .i64 a0_0, .int .i64 a0_1, .slice A0_2 l0_2.length c0_2] 30 (0, 0)) zah2 hb); have n3_ := Aside0.mk (blk_below (g := gb898) (o := .cells #[.int .i64 a1_0, .int .i64 a1_1] 32 (0, 0)) zah4 hb); have n4_ := Aside0.mk (hbox); have n5_ := Aside0.mk ((Nat.le_trans (by exact (below_size zah3)) hge : w.heap.size ≤ gb905)); have n6_ := Aside0.mk ((Nat.le_trans (by exact (below_size zah3)) hge : w.heap.size ≤ gb905)); have n7_ := Aside0.mk ((Nat.ne_of_lt (Nat.lt_of_lt_of_le (blk_lt (g := gb897) (o := .cells #[.int .i64 a0_0, .int .i64 a0_1, .slice A0_2 l0_2.length c0_2] 30 (0, 0)) zah2) hge) : gb897 ≠ gb905)); have n8_ := Aside0.mk ((Nat.ne_of_gt (Nat.lt_of_lt_of_le (blk_lt (g := gb897) (o := .cells #[.int .i64 a0_0, .int .i64 a0_1, .slice A0_2 l0_2.length c0_2] 30 (0, 0)) zah2) hge) : gb905 ≠ gb897)); have n9_ := Aside0.mk ((Nat.ne_of_lt (Nat.lt_of_lt_of_le (blk_lt (g := gb898) (o := .cells #[.int .i64 a1_0, .int .i64 a1_1] 32 (0, 0)) zah4) hge) : gb898 ≠ gb905)); have n10_ := Aside0.mk ((Nat.ne_of_gt (Nat.lt_of_lt_of_le (blk_lt (g := gb898) (o := .cells #[.int .i64 a1_0, .int .i64 a1_1] 32 (0, 0)) zah4) hge) : gb905 ≠ gb898)); have n11_ := Aside0.mk (below_step zah3 hb); clear BK897; clear BK898; clear HB; have HO901 := n0_; have HO904 := n1_; have BK897 := n2_; have BK898 := n3_; have BK905 := n4_; have GW905 := n5_; have GE905 := n6_; have NB897_905 := n7_; have NB905_897 := n8_; have NB898_905 := n9_; have NB905_898 := n10_; have HB := n11_; clear n0_ n1_ n2_ n3_ n4_ n5_ n6_ n7_ n8_ n9_ n10_ n11_; (try clear hb); (try clear hb2); (try clear hk); (try clear hi); (try clear ho0); (try clear ho1); (try clear hgp); (try clear hbox); (try clear hge); (try clear hna_); (try clear hnb_); have hnb13 := NB897_905.out; have hnc13 := NB905_897.out; have hcz14_0 : w12.cell? ⟨gb897, 0, none⟩ = some (.int .i64 a0_0) := (blk_cell BK897.out 0).trans rfl; have hcz14_1 : w12.cell? ⟨gb897, 1, none⟩ = some (.int .i64 a0_1) := (blk_cell BK897.out 1).trans rfl; have hcz14_2 : w12.cell? ⟨gb897, 2, none⟩ = some (.slice A0_2 l0_2.length c0_2) := (blk_cell BK897.out 2).trans rfl; have hfz14_0 := blk_frozen BK897.out 0; have hfz14_1 := blk_frozen BK897.out 1; have hfz14_2 := blk_frozen BK897.out 2))
 go_loopg [10, 37] k (fun kq v10 v37 w' => ∃ (x10_1 : Int) (x37_1 : Int), v10 = .int .i64 x10_1 ∧ v37 = .int .i64 x37_1 ∧ Aside0 (impl_WalkOfNumbers.l0 kq l2 x10_1 l2 (l2.length : Int) x37_1 a0_0 a0_1 l0_2 a1_0 a1_1 t899 t902 = some (r1, r2)) ∧ Aside0 (kq ≤ k) ∧ Aside0 (Kd.R (Kd.int .i64) 3 w' w.heap.size (fun _ => True) v900 t899) ∧ Aside0 (Kd.S (Kd.slice 3 (Kd.int .i64)) 22 w' w.heap.size (fun k_ => some k_ ≠ (v900 : Value).ownBlock) v903 t902) ∧ Aside0 (w'.heap[gb897]? = some (.cells #[.int .i64 a0_0, .int .i64 a0_1, (.slice A0_2 l0_2.length c0_2)] 30 (0, 0))) ∧ Aside0 (w'.heap[gb898]? = some (.cells #[.int .i64 a1_0, .int .i64 a1_1] 32 (0, 0))) ∧ Aside0 (w'.heap[gb905]? = some (.cells #[.int .i64 a0_0, .int .i64 a0_1, (.slice A0_2 l0_2.length c0_2), .int .i64 a1_0, .int .i64 a1_1, v900, v903] 82 (0, 0))) ∧ Aside0 (Below w.heap.size w w'))
 case atStart => exact ⟨(0), (0), zah14, zah14, H', ⟨Nat.le_refl _⟩, ⟨by (with_reducible repeat (first | apply Kd.R_alloc | apply Kd.R_drewN | apply Kd.R_drew)); exact HO901.out⟩, ⟨by (with_reducible repeat (first | apply Kd.S_alloc | apply Kd.S_drewN | apply Kd.S_drew)); exact HO904.out⟩, ⟨zah2⟩, ⟨zah4⟩, ⟨zah5⟩, ⟨zah1⟩⟩
 case round =>
  clear H'
  try clear c1; try clear c2; try clear p2; try clear c3; try clear c5; try clear c6; try clear c6b0; try clear c6b1; try clear p6; try clear c9; try clear c13; try clear hcz10_0; try clear hcz10_1; try clear hcz10_2; try clear hcz11_0; try clear hcz11_1; try clear hcz14_0; try clear hcz14_1; try clear hcz14_2; try clear hfz10_0; try clear hfz10_1; try clear hfz10_2; try clear hfz11_0; try clear hfz11_1; try clear hfz14_0; try clear hfz14_1; try clear hfz14_2
  obtain ⟨x10_1, x37_1, rfl, rfl, HA, HK1, HO_906005, HO_906006, BK897, BK898, BK905, HB⟩ := hrel
  cases gk with
  | zero => exact absurd HA.out (by simp [impl_WalkOfNumbers.l0])
  | succ k1 =>
   have H := HA.out
   clear HA
   simp only [impl_WalkOfNumbers.l0] at H
   by_cases c15 : x37_1 < (l2.length : Int)
   ·rw [if_pos c15] at H
    have c15b0 : decide (x37_1 < (l2.length : Int)) = true := decide_eq_true c15
    clear c15
    by_cases c16 : 0 ≤ x37_1
    rotate_left
    ·rw [if_neg c16] at H
     exact absurd H (by simp)
    rw [if_pos c16] at H
    have c16b0 : decide (0 ≤ x37_1) = true := decide_eq_true c16
    clear c16
    by_cases c17 : x37_1 < (l2.length : Int)
    rotate_left
    ·rw [if_neg c17] at H
     exact absurd H (by simp)
    rw [if_pos c17] at H
    have c17b0 : decide (x37_1 < (l2.length : Int)) = true := decide_eq_true c17
    clear c17
    have HC18 := Aside0.mk H
    clear H
    have p908 : 0 ≤ (x37_1 : Int) := of_decide_eq_true zah8
    have q908 : x37_1 < (l2.length : Int) := of_decide_eq_true zah8
    obtain ⟨ad908, e908, hx908_0⟩ := Kd.at_int HR2.out x37_1 p908 q908
    cases e908
    (first | replace hx908_0 := (HB.out.cell (World.block_lt_of_cell? w _ hx908_0)).trans hx908_0 | skip)
    replace p908 := eq_true p908
    replace q908 := eq_true q908
    go_upto_region 8 with (fail)
    go_cut [48] (fun v48 wc => ∃ (kq : Nat) (x48_17 : Bool), v48 = .bool x48_17 ∧ Aside0 (impl_WalkOfNumbers.j1 kq l2 x10_1 (rd l2 x37_1) l2 (l2.length : Int) x37_1 x48_17 a0_0 a0_1 l0_2 a1_0 a1_1 t899 t902 = some (r1, r2)) ∧ Aside0 (kq ≤ k1) ∧ Aside0 (Kd.R (Kd.int .i64) 3 wc w.heap.size (fun _ => True) v900 t899) ∧ Aside0 (Kd.S (Kd.slice 3 (Kd.int .i64)) 22 wc w.heap.size (fun k_ => some k_ ≠ (v900 : Value).ownBlock) v903 t902) ∧ Aside0 (wc.heap[gb897]? = some (.cells #[.int .i64 a0_0, .int .i64 a0_1, (.slice A0_2 l0_2.length c0_2)] 30 (0, 0))) ∧ Aside0 (wc.heap[gb898]? = some (.cells #[.int .i64 a1_0, .int .i64 a1_1] 32 (0, 0))) ∧ Aside0 (wc.heap[gb905]? = some (.cells #[.int .i64 a0_0, .int .i64 a0_1, (.slice A0_2 l0_2.length c0_2), .int .i64 a1_0, .int .i64 a1_1, v900, v903] 82 (0, 0))) ∧ Aside0 (Below w.heap.size w wc))
    case first =>
     have H := HC18.out
     clear HC18
     by_cases c19 : (rd l2 x37_1) < 0
     ·rw [if_pos c19] at H
      have c19b0 : decide ((rd l2 x37_1) < 0) = true := decide_eq_true c19
      clear c19
      (first | rw [c19b0] | (simp only [i64_w, i32_w]; rw [c19b0]) | skip)
      have H' := Aside0.mk H
      clear H
      go_wp2
      go_meet
      case rel => exact ⟨_, (true), zah14, H', ⟨by have := HK1.out; first | omega | exact Nat.le_refl _⟩, ⟨zah9⟩, ⟨zah12⟩, ⟨zah2⟩, ⟨zah4⟩, ⟨zah5⟩, ⟨zah1⟩⟩
     rw [if_neg c19] at H
     have c19b0 : decide ((rd l2 x37_1) < 0) = false := decide_eq_false c19
     clear c19
     (first | rw [c19b0] | (simp only [i64_w, i32_w]; rw [c19b0]) | skip)
     have H' := Aside0.mk H
     clear H
     go_wp2
     go_meet
     case rel => exact ⟨_, (decide ((rd l2 x37_1) > (l2.length : Int))), zah14, H', ⟨by have := HK1.out; first | omega | exact Nat.le_refl _⟩, ⟨zah9⟩, ⟨zah12⟩, ⟨zah2⟩, ⟨zah4⟩, ⟨zah5⟩, ⟨zah1⟩⟩
    case rest =>
     clear HC18
     try clear c1; try clear c2; try clear p2; try clear c3; try clear c5; try clear c6; try clear c6b0; try clear c6b1; try clear p6; try clear c9; try clear p9; try clear q9; try clear hx9; try clear c13; try clear c15; try clear c15b0; try clear c16; try clear c16b0; try clear c17; try clear c17b0; try clear c19; try clear c19b0; try clear hcz10_0; try clear hcz10_1; try clear hcz10_2; try clear hcz11_0; try clear hcz11_1; try clear hcz14_0; try clear hcz14_1; try clear hcz14_2; try clear hfz10_0; try clear hfz10_1; try clear hfz10_2; try clear hfz11_0; try clear hfz11_1; try clear hfz14_0; try clear hfz14_1
     try clear hfz14_2; try clear hx908_0; try clear p2; try clear p6; try clear p908; try clear q908
     obtain ⟨kq, x48_17, rfl, HA, HJ17, HO_906005, HO_906006, BK897, BK898, BK905, HB⟩ := hcut
     cases kq with
     | zero => exact absurd HA.out (by simp [impl_WalkOfNumbers.j1])
     | succ kj17 =>
      have H := HA.out
      clear HA
      simp only [impl_WalkOfNumbers.j1] at H
      by_cases c20 : x48_17 = true
      ·subst c20
       have H1 : (some (([] : List Int), false)) = some (r1, r2) := by rw [if_pos rfl] at H; exact H
       clear H
       have H := H1
       clear H1
       simp only [Option.some.injEq, Prod.mk.injEq] at H
       obtain ⟨rfl, rfl⟩ := H
       go_wp2
       go_ret2
       exact ⟨_, zah15, zah10, zah1⟩
      replace c20 := Bool.eq_false_iff.mpr c20
      subst c20
      have H1 : (if (rd l2 x37_1) > 0 then (impl_WalkOfNumbers.l0 kj17 l2 (wrap64 (x10_1 + 1)) l2 (l2.length : Int) (wrap64 (x37_1 + 1)) a0_0 a0_1 l0_2 a1_0 a1_1 t899 t902) else (impl_WalkOfNumbers.l0 kj17 l2 x10_1 l2 (l2.length : Int) (wrap64 (x37_1 + 1)) a0_0 a0_1 l0_2 a1_0 a1_1 t899 t902)) = some (r1, r2) := by rw [if_neg (show ¬ (false = true) by decide)] at H; exact H
      clear H
      have H := H1
      clear H1
      by_cases c21 : (rd l2 x37_1) > 0
      ·rw [if_pos c21] at H
       have c21b0 : decide (0 < (rd l2 x37_1)) = true := decide_eq_true c21
       clear c21
       have H' := Aside0.mk H
       clear H
       go_wp2
       go_roundg kj17
       case measure => have := HK1.out; have := HJ17.out; omega
       case rel => exact ⟨(wrap64 (x10_1 + 1)), (wrap64 (x37_1 + 1)), zah14, zah14, H', ⟨by have := HK1.out; have := HJ17.out; omega⟩, ⟨zah9⟩, ⟨zah12⟩, ⟨zah2⟩, ⟨zah4⟩, ⟨zah5⟩, ⟨zah1⟩⟩
      rw [if_neg c21] at H
      have c21b0 : decide (0 < (rd l2 x37_1)) = false := decide_eq_false c21
      clear c21
      have H' := Aside0.mk H
      clear H
      go_wp2
      go_roundg kj17
      case measure => have := HK1.out; have := HJ17.out; omega
      case rel => exact ⟨(x10_1), (wrap64 (x37_1 + 1)), zah14, zah14, H', ⟨by have := HK1.out; have := HJ17.out; omega⟩, ⟨zah9⟩, ⟨zah12⟩, ⟨zah2⟩, ⟨zah4⟩, ⟨zah5⟩, ⟨zah1⟩⟩
   rw [if_neg c15] at H
   have c15b0 : decide (x37_1 < (l2.length : Int)) = false := decide_eq_false c15
   clear c15
   by_cases c22 : 0 ≤ x10_1
   rotate_left
   ·rw [if_neg c22] at H
    exact absurd H (by simp)
   rw [if_pos c22] at H
   have c22b0 := eq_true c22
   have c22b1 : decide (0 ≤ x10_1) = true := decide_eq_true c22
   clear c22
   by_cases c23 : (x10_1 : Int).toNat ≤ 35184372088832
   rotate_left
   ·rw [if_neg c23] at H
    exact absurd H (by simp)
   rw [if_pos c23] at H
   have c23b0 := eq_true c23
   have c23b1 : decide ((x10_1 : Int).toNat ≤ 35184372088832) = true := decide_eq_true c23
   clear c23
   obtain ⟨y909, hy909⟩ : ∃ y_ : List Int, y_ = (List.replicate (x10_1 : Int).toNat 0) := ⟨_, rfl⟩
   replace H : (impl_WalkOfNumbers.l1 k1 l2 x10_1 y909 (y909.length : Int) 0 a0_0 a0_1 l0_2 a1_0 a1_1 t899 t902) = some (r1, r2) := by first | (rw [hy909]; with_reducible exact H) | (have H2_ := (Option.bind_some _ _).symm.trans H; rw [hy909]; with_reducible exact H2_) | (have H2_ := (Option.bind_some _ _).symm.trans H; with_reducible exact H2_) | with_reducible exact H | (rw [hy909]; exact H) | exact H
   have Ny909 := Aside0.mk hy909
   clear hy909
   have H' := Aside0.mk H
   clear H
   go_wp2_with (first | ((with_reducible refine gate_dst (N := 55) rfl ?_); (try (refine gate_guard (by rfl) ?_; dsimp only)); refine Kd.R_make (Kd.int .i64) _ 3 rfl (N := 55) rfl 22 _ _ rfl x10_1 rfl rfl Try.underlying22 (.int .i64 0) 8 info3 rfl (by decide) (by omega) 0 (ok := fun _ => True) (okp := fun _ => True) rfl (fun _ hk => hk) trivial (of_decide_eq_true zah8) (Nat.le_trans (Nat.mul_le_mul_right _ (of_decide_eq_true zah8 : x10_1.toNat ≤ 35184372088832)) (by omega)) (Below.refl _ _) (Nat.le_refl _) ?_; intro v910 w24 ho25 hb hg_ hnew_; clear hg_ hnew_; (first | rw [← Ny909.out] at ho25 | (simp only [Int.reduceToNat] at ho25; rw [← Ny909.out] at ho25)); have n0_ := Aside0.mk (Kd.R_elder' zah9 (Kd.R_base ho25) hb); have n1_ := Aside0.mk (Kd.S_elder' zah12 (Kd.R_base ho25) hb); have n2_ := Aside0.mk (Kd.R_lower (Kd.R_new' ho25 (Kd.R_lt zah9)) (below_size zah1)); have n3_ := Aside0.mk (blk_below (g := gb897) (o := .cells #[.int .i64 a0_0, .int .i64 a0_1, .slice A0_2 l0_2.length c0_2] 30 (0, 0)) zah2 hb); have n4_ := Aside0.mk (blk_below (g := gb898) (o := .cells #[.int .i64 a1_0, .int .i64 a1_1] 32 (0, 0)) zah4 hb); have n5_ := Aside0.mk (blk_below (g := gb905) (o := .cells #[.int .i64 a0_0, .int .i64 a0_1, .slice A0_2 l0_2.length c0_2, .int .i64 a1_0, .int .i64 a1_1, v900, v903] 82 (0, 0)) zah5 hb); have n6_ := Aside0.mk (below_step zah1 hb); clear HO_906005; clear HO_906006; clear BK897; clear BK898; clear BK905; clear HB; have HO_906005 := n0_; have HO_906006 := n1_; have HO911 := n2_; have BK897 := n3_; have BK898 := n4_; have BK905 := n5_; have HB := n6_; clear n0_ n1_ n2_ n3_ n4_ n5_ n6_; clear hb ho25; obtain ⟨Ao26, co26, eo26⟩ := Kd.R_slice HO911.out; subst eo26))
   go_loopg [58] k1 (fun kq v58 w' => ∃ (x13_2 : List Int) (x58_2 : Int), v58 = .int .i64 x58_2 ∧ Aside0 (impl_WalkOfNumbers.l1 kq l2 x10_1 x13_2 (y909.length : Int) x58_2 a0_0 a0_1 l0_2 a1_0 a1_1 t899 t902 = some (r1, r2)) ∧ Aside0 (kq ≤ k1) ∧ Aside0 (Kd.R (Kd.int .i64) 3 w' w.heap.size (fun k_ => some k_ ≠ (v900 : Value).ownBlock) (.slice Ao26 y909.length co26) x13_2) ∧ Aside0 (Kd.R (Kd.int .i64) 3 w' w.heap.size (fun k_ => some k_ ≠ ((.slice Ao26 y909.length co26) : Value).ownBlock) v900 t899) ∧ Aside0 (Kd.S (Kd.slice 3 (Kd.int .i64)) 22 w' w.heap.size (fun k_ => some k_ ≠ ((.slice Ao26 y909.length co26) : Value).ownBlock ∧ some k_ ≠ (v900 : Value).ownBlock) v903 t902) ∧ Aside0 (w'.heap[gb897]? = some (.cells #[.int .i64 a0_0, .int .i64 a0_1, (.slice A0_2 l0_2.length c0_2)] 30 (0, 0))) ∧ Aside0 (w'.heap[gb898]? = some (.cells #[.int .i64 a1_0, .int .i64 a1_1] 32 (0, 0))) ∧ Aside0 (w'.heap[gb905]? = some (.cells #[.int .i64 a0_0, .int .i64 a0_1, (.slice A0_2 l0_2.length c0_2), .int .i64 a1_0, .int .i64 a1_1, v900, v903] 82 (0, 0))) ∧ Aside0 (Below w.heap.size w w'))
   case atStart => exact ⟨(y909), (0), zah14, H', ⟨Nat.le_refl _⟩, ⟨by (with_reducible repeat (first | apply Kd.R_alloc | apply Kd.R_drewN | apply Kd.R_drew)); exact Kd.R_mono HO911.out (fun _ hk => hk.2)⟩, ⟨by (with_reducible repeat (first | apply Kd.R_alloc | apply Kd.R_drewN | apply Kd.R_drew)); exact Kd.R_mono HO_906005.out (fun _ hk => hk.2)⟩, ⟨zah16⟩, ⟨zah2⟩, ⟨zah4⟩, ⟨zah5⟩, ⟨zah1⟩⟩
   case round =>
    clear H'
    try clear c1; try clear c2; try clear p2; try clear c3; try clear c5; try clear c6; try clear c6b0; try clear c6b1; try clear p6; try clear c9; try clear p9; try clear q9; try clear hx9; try clear c13; try clear c15; try clear c15b0; try clear c16; try clear c16b0; try clear c17; try clear c17b0; try clear c19; try clear c19b0; try clear c20; try clear c21; try clear c21b0; try clear c22; try clear c22b0; try clear c22b1; try clear c23; try clear c23b0; try clear c23b1; try clear hcz10_0; try clear hcz10_1; try clear hcz10_2; try clear hcz11_0; try clear hcz11_1; try clear hcz14_0; try clear hcz14_1
    try clear hcz14_2; try clear hfz10_0; try clear hfz10_1; try clear hfz10_2; try clear hfz11_0; try clear hfz11_1; try clear hfz14_0; try clear hfz14_1; try clear hfz14_2; try clear hx908_0; try clear p2; try clear p6; try clear p9; try clear p908; try clear q9; try clear q908
    obtain ⟨x13_2, x58_2, rfl, HA, HK2, HO_13, HO_906005, HO_906006, BK897, BK898, BK905, HB⟩ := hrel
    have hl13_2 := (Kd.R_reads' HO_13.out).1
    rw [hl13_2] at HO_13
    (try simp only [hl13_2])
    (try simp only [hl13_2] at BK897)
    (try simp only [hl13_2] at BK898)
    (try simp only [hl13_2] at BK905)
    (try simp only [hl13_2] at HO_906005)
    (try simp only [hl13_2] at HO_906006)
    cases gk with
    | zero => exact absurd HA.out (by simp [impl_WalkOfNumbers.l1])
    | succ k2 =>
     have H := HA.out
     clear HA
     simp only [impl_WalkOfNumbers.l1] at H
     by_cases c27 : x58_2 < (y909.length : Int)
     ·rw [if_pos c27] at H
      have c27b0 : decide (x58_2 < (y909.length : Int)) = true := decide_eq_true c27
      have c27b8 := c27b0
      (try simp only [hl13_2] at c27b8)
      clear c27
      by_cases c28 : 0 ≤ x58_2
      rotate_left
      ·rw [if_neg c28] at H
       exact absurd H (by simp)
      rw [if_pos c28] at H
      have c28b0 : decide (0 ≤ x58_2) = true := decide_eq_true c28
      clear c28
      by_cases c29 : x58_2 < (x13_2.length : Int)
      rotate_left
      ·rw [if_neg c29] at H
       exact absurd H (by simp)
      rw [if_pos c29] at H
      have c29b0 : decide (x58_2 < (x13_2.length : Int)) = true := decide_eq_true c29
      have c29b8 := c29b0
      (try simp only [hl13_2] at c29b8)
      clear c29
      obtain ⟨y912, hy912⟩ : ∃ y_ : List Int, y_ = (x13_2.set (x58_2 : Int).toNat (-1)) := ⟨_, rfl⟩
      replace H : (impl_WalkOfNumbers.l1 k2 l2 x10_1 y912 (y909.length : Int) (wrap64 (x58_2 + 1)) a0_0 a0_1 l0_2 a1_0 a1_1 t899 t902) = some (r1, r2) := by first | (rw [hy912]; with_reducible exact H) | (have H2_ := (Option.bind_some _ _).symm.trans H; rw [hy912]; with_reducible exact H2_) | (have H2_ := (Option.bind_some _ _).symm.trans H; with_reducible exact H2_) | with_reducible exact H | (rw [hy912]; exact H) | exact H
      have Ny912 := Aside0.mk hy912
      clear hy912
      have H' := Aside0.mk H
      clear H
      have p30 : 0 ≤ (x58_2 : Int) := of_decide_eq_true zah8
      have q30 : (x58_2 : Int) < ((x13_2.length : Int) : Int) := of_decide_eq_true zah8
      obtain ⟨go30, co30, eo30, gb30, gl30, cl30, HG30⟩ := Kd.R_form HO_13.out (by omega)
      (first | cases eo30 | (injection eo30 with ea_ en_ ec_; (first | subst ea_ | (injection ea_ with ea_; subst ea_)); subst ec_; clear en_))
      have GB30 := Aside0.mk gb30
      have GG30 := Aside0.mk HG30
      clear gb30 gl30 HG30
      obtain ⟨hx30_0, hf30_0⟩ := Kd.R_celln 0 HO_13.out (x58_2 : Int) p30 q30
      replace p30 := eq_true p30
      replace q30 := eq_true q30
      have HP31 := Kd.R_putg HO_13.out (x58_2 : Int) (-1)
      go_wp2_with (first | ((with_reducible refine gate_store (t := 3) (p := 63) rfl ?_); refine store_event (t := 3) (p := 63) (v := ?vo_w32) (w1 := (wr.setCell ⟨go30, (x58_2 : Int).toNat, none⟩ (.int .i64 (-1)))) ?hg ?ho ?hn ?hr ?_; (case ho => rfl); (case hg => rfl); (case hn => rfl); (case hr => first | (go_simp; done) | (go_simp; rfl)); intro w32 hw; have hg : wr.grownBy w32 (some go30) := (by rw [hw]; exact HP31.2); have hp_ : Kd.R (Kd.int .i64) 3 w32 w.heap.size (fun k_ => some k_ ≠ (v900 : Value).ownBlock) (.slice (some ⟨go30, 0, none⟩) x13_2.length co26) y912 := (by rw [hw, Ny912.out]; exact HP31.1); clear HP31; have n0_ := Aside0.mk (hp_); have n1_ := Aside0.mk (Kd.R_after (v := (.slice (some ⟨go30, 0, none⟩) x13_2.length co26)) (v1 := (.slice (some ⟨go30, 0, none⟩) x13_2.length co26)) (ok := (fun _ => True)) zah24 hg (.inl rfl)); have n2_ := Aside0.mk (Kd.S_after (v := (.slice (some ⟨go30, 0, none⟩) x13_2.length co26)) (v1 := (.slice (some ⟨go30, 0, none⟩) x13_2.length co26)) (ok := (fun k_ => some k_ ≠ (v900 : Value).ownBlock)) zah16 hg (.inl rfl)); have n3_ := Aside0.mk (blk_grown (g := gb897) (o := .cells #[.int .i64 a0_0, .int .i64 a0_1, .slice A0_2 l0_2.length c0_2] 30 (0, 0)) zah2 hg (Kd.R_ne HO_13.out BK897.out (by decide))); have n4_ := Aside0.mk (blk_grown (g := gb898) (o := .cells #[.int .i64 a1_0, .int .i64 a1_1] 32 (0, 0)) zah4 hg (Kd.R_ne HO_13.out BK898.out (by decide))); have n5_ := Aside0.mk (blk_grown (g := gb905) (o := .cells #[.int .i64 a0_0, .int .i64 a0_1, .slice A0_2 l0_2.length c0_2, .int .i64 a1_0, .int .i64 a1_1, v900, v903] 82 (0, 0)) zah5 hg (Kd.R_ne HO_13.out BK905.out (by decide))); have n6_ := Aside0.mk ((by rw [hw]; exact below_set (HB.out) GB30.out : Below w.heap.size w w32)); clear HO_13; clear HO_906005; clear HO_906006; clear BK897; clear BK898; clear BK905; clear HB; have HO_13 := n0_; have HO_906005 := n1_; have HO_906006 := n2_; have BK897 := n3_; have BK898 := n4_; have BK905 := n5_; have HB := n6_; clear n0_ n1_ n2_ n3_ n4_ n5_ n6_; clear hg hw hp_))
      (try simp only [← hl13_2])
      go_roundg k2
      case measure => have := HK1.out; have := HK2.out; omega
      case rel => exact ⟨(y912), (wrap64 (x58_2 + 1)), zah14, H', ⟨by have := HK1.out; have := HK2.out; omega⟩, ⟨zah28⟩, ⟨by (try simp only [hl13_2]); (with_reducible repeat (first | apply Kd.R_alloc | apply Kd.R_drewN | apply Kd.R_drew)); exact Kd.R_mono HO_906005.out (fun _ hk => hk.2)⟩, ⟨by (try simp only [hl13_2]); (with_reducible repeat (first | apply Kd.S_alloc | apply Kd.S_drewN | apply Kd.S_drew)); exact Kd.S_mono HO_906006.out (fun _ hk => ⟨hk.2, hk.1⟩)⟩, ⟨zah27⟩, ⟨zah26⟩, ⟨zah25⟩, ⟨zah1⟩⟩
     rw [if_neg c27] at H
     have c27b0 : decide (x58_2 < (y909.length : Int)) = false := decide_eq_false c27
     have c27b8 := c27b0
     (try simp only [hl13_2] at c27b8)
     clear c27
     have H' := Aside0.mk H
     clear H
     go_wp2
     go_loopg [67] k2 (fun kq v67 w' => ∃ (x13_3 : List Int) (x67_3 : Int), v67 = .int .i64 x67_3 ∧ Aside0 (impl_WalkOfNumbers.l2 kq x10_1 x13_3 l2 (l2.length : Int) x67_3 a0_0 a0_1 l0_2 a1_0 a1_1 t899 t902 = some (r1, r2)) ∧ Aside0 (kq ≤ k2) ∧ Aside0 (Kd.R (Kd.int .i64) 3 w' w.heap.size (fun k_ => some k_ ≠ (v900 : Value).ownBlock) (.slice Ao26 x13_2.length co26) x13_3) ∧ Aside0 (Kd.R (Kd.int .i64) 3 w' w.heap.size (fun k_ => some k_ ≠ ((.slice Ao26 x13_2.length co26) : Value).ownBlock) v900 t899) ∧ Aside0 (Kd.S (Kd.slice 3 (Kd.int .i64)) 22 w' w.heap.size (fun k_ => some k_ ≠ ((.slice Ao26 x13_2.length co26) : Value).ownBlock ∧ some k_ ≠ (v900 : Value).ownBlock) v903 t902) ∧ Aside0 (w'.heap[gb897]? = some (.cells #[.int .i64 a0_0, .int .i64 a0_1, (.slice A0_2 l0_2.length c0_2)] 30 (0, 0))) ∧ Aside0 (w'.heap[gb898]? = some (.cells #[.int .i64 a1_0, .int .i64 a1_1] 32 (0, 0))) ∧ Aside0 (w'.heap[gb905]? = some (.cells #[.int .i64 a0_0, .int .i64 a0_1, (.slice A0_2 l0_2.length c0_2), .int .i64 a1_0, .int .i64 a1_1, v900, v903] 82 (0, 0))) ∧ Aside0 (Below w.heap.size w w'))
     case atStart => exact ⟨(x13_2), (0), zah14, H', ⟨Nat.le_refl _⟩, ⟨zah28⟩, ⟨by (try simp only [hl13_2]); (with_reducible repeat (first | apply Kd.R_alloc | apply Kd.R_drewN | apply Kd.R_drew)); exact HO_906005.out⟩, ⟨by (try simp only [hl13_2]); (with_reducible repeat (first | apply Kd.S_alloc | apply Kd.S_drewN | apply Kd.S_drew)); exact HO_906006.out⟩, ⟨zah27⟩, ⟨zah26⟩, ⟨zah25⟩, ⟨zah1⟩⟩
     case round =>
      clear H'
      try clear c1; try clear c2; try clear p2; try clear c3; try clear p3; try clear q3; try clear hx3; try clear hf3; try clear c5; try clear c6; try clear c6b0; try clear c6b1; try clear p6; try clear c9; try clear p9; try clear q9; try clear hx9; try clear c13; try clear c15; try clear c15b0; try clear c16; try clear c16b0; try clear c17; try clear c17b0; try clear c19; try clear c19b0; try clear c20; try clear c21; try clear c21b0; try clear c22; try clear c22b0; try clear c22b1; try clear c23; try clear c23b0; try clear c23b1; try clear c27; try clear c27b0; try clear c27b8; try clear c28; try clear c28b0
      try clear c29; try clear c29b0; try clear c29b8; try clear p30; try clear q30; try clear hx30; try clear hf30; try clear hcz10_0; try clear hcz10_1; try clear hcz10_2; try clear hcz11_0; try clear hcz11_1; try clear hcz14_0; try clear hcz14_1; try clear hcz14_2; try clear hfz10_0; try clear hfz10_1; try clear hfz10_2; try clear hfz11_0; try clear hfz11_1; try clear hfz14_0; try clear hfz14_1; try clear hfz14_2; try clear hx30_0; try clear hx908_0; try clear p2; try clear p30; try clear p6; try clear p9; try clear p908; try clear q30; try clear q9; try clear q908
      obtain ⟨x13_3, x67_3, rfl, HA, HK3, HO_13, HO_906005, HO_906006, BK897, BK898, BK905, HB⟩ := hrel
      have hl13_3 := (Kd.R_reads' HO_13.out).1
      rw [hl13_3] at HO_13
      (try simp only [hl13_3])
      (try simp only [hl13_3] at BK897)
      (try simp only [hl13_3] at BK898)
      (try simp only [hl13_3] at BK905)
      (try simp only [hl13_3] at HO_906005)
      (try simp only [hl13_3] at HO_906006)
      cases gk with
      | zero => exact absurd HA.out (by simp [impl_WalkOfNumbers.l2])
      | succ k3 =>
       have H := HA.out
       clear HA
       simp only [impl_WalkOfNumbers.l2] at H
       by_cases c33 : x67_3 < (l2.length : Int)
       rotate_left
       ·rw [if_neg c33] at H
        have c33b0 : decide (x67_3 < (l2.length : Int)) = false := decide_eq_false c33
        have c33b8 := c33b0
        (try simp only [hl13_2, hl13_3] at c33b8)
        clear c33
        replace H := Option.bind_eq_some_iff.mp H
        obtain ⟨t913, A450, H⟩ := H
        replace H : (if t913 = true then (some (x13_3, true)) else (some (([] : List Int), false))) = some (r1, r2) := H
        have A45 := Aside0.mk A450
        clear A450
        by_cases c46 : t913 = true
        ·subst c46
         have H1 : (some (x13_3, true)) = some (r1, r2) := by rw [if_pos rfl] at H; exact H
         clear H
         have H := H1
         clear H1
         simp only [Option.some.injEq, Prod.mk.injEq] at H
         obtain ⟨rfl, rfl⟩ := H
         obtain ⟨Ao47, co47, eo47⟩ := Kd.R_slice HO_906005.out
         subst eo47
         obtain ⟨Ao48, co48, eo48⟩ := Kd.S_slice HO_906006.out
         subst eo48
         go_wp2_with (first | ((with_reducible refine gate_callee (f := 72) rfl ?_); refine goesL_ (some 93) rfl rfl Try.func72 (by kernel_rfl) rfl #[.pointer (some ⟨gb905, 0, none⟩), .slice Ao26 x13_3.length co26] rfl zah13 ?_; (with_reducible refine (impl_graph_isWalk.calls k3 gb905 a0_0 a0_1 A0_2 c0_2 l0_2 a1_0 a1_1 Ao47 co47 t899 Ao48 co48 t902 _ _ x13_3 true _ ?side1 ?side2 ?side3 ?side4 ?side5 ?side6 ?side7 ?side8 ?side9 A45.out).mono ?_); (case side1 => exact zah5); (case side2 => exact zah11); (case side3 => exact HC0_2.out); (case side4 => exact zah21); (case side5 => exact (Kd.R_reads' HO_906005.out).2.1); (case side6 => exact zah20); (case side7 => exact (Kd.S_reads' HO_906006.out).2.1); (case side8 => exact zah22); (case side9 => exact (Kd.R_reads' HO_13.out).2.1); rintro e w49 ⟨rfl, hb⟩; refine ⟨_, rfl, ?_⟩; have n0_ := Aside0.mk (Kd.R_below (by (with_reducible repeat (first | apply Kd.R_alloc | apply Kd.R_drewN | apply Kd.R_drew)); exact HO_13.out) hb); have n1_ := Aside0.mk (Kd.R_below zah9 hb); have n2_ := Aside0.mk (Kd.S_below zah12 hb); have n3_ := Aside0.mk (blk_below (g := gb897) (o := .cells #[.int .i64 a0_0, .int .i64 a0_1, .slice A0_2 l0_2.length c0_2] 30 (0, 0)) zah2 hb); have n4_ := Aside0.mk (blk_below (g := gb898) (o := .cells #[.int .i64 a1_0, .int .i64 a1_1] 32 (0, 0)) zah4 hb); have n5_ := Aside0.mk (blk_below (g := gb905) (o := .cells #[.int .i64 a0_0, .int .i64 a0_1, .slice A0_2 l0_2.length c0_2, .int .i64 a1_0, .int .i64 a1_1, .slice Ao47 t899.length co47, .slice Ao48 t902.length co48] 82 (0, 0)) zah5 hb); have n6_ := Aside0.mk (below_step zah1 hb); clear HO_13; clear HO_906005; clear HO_906006; clear BK897; clear BK898; clear BK905; clear HB; have HO_13 := n0_; have HO_906005 := n1_; have HO_906006 := n2_; have BK897 := n3_; have BK898 := n4_; have BK905 := n5_; have HB := n6_; clear n0_ n1_ n2_ n3_ n4_ n5_ n6_; (try clear hb); (try clear hb2); (try clear hk); (try clear hi); (try clear hna_); (try clear hnb_)))
         go_ret2
         exact ⟨_, zah15, by (with_reducible repeat (first | apply Kd.R_alloc | apply Kd.R_drewN | apply Kd.R_drew)); exact Kd.R_mono HO_13.out (fun _ hk => trivial), zah1⟩
        replace c46 := Bool.eq_false_iff.mpr c46
        subst c46
        have H1 : (some (([] : List Int), false)) = some (r1, r2) := by rw [if_neg (show ¬ (false = true) by decide)] at H; exact H
        clear H
        have H := H1
        clear H1
        simp only [Option.some.injEq, Prod.mk.injEq] at H
        obtain ⟨rfl, rfl⟩ := H
        obtain ⟨Ao50, co50, eo50⟩ := Kd.R_slice HO_906005.out
        subst eo50
        obtain ⟨Ao51, co51, eo51⟩ := Kd.S_slice HO_906006.out
        subst eo51
        go_wp2_with (first | ((with_reducible refine gate_callee (f := 72) rfl ?_); refine goesL_ (some 93) rfl rfl Try.func72 (by kernel_rfl) rfl #[.pointer (some ⟨gb905, 0, none⟩), .slice Ao26 x13_3.length co26] rfl zah13 ?_; (with_reducible refine (impl_graph_isWalk.calls k3 gb905 a0_0 a0_1 A0_2 c0_2 l0_2 a1_0 a1_1 Ao50 co50 t899 Ao51 co51 t902 _ _ x13_3 false _ ?side1 ?side2 ?side3 ?side4 ?side5 ?side6 ?side7 ?side8 ?side9 A45.out).mono ?_); (case side1 => exact zah5); (case side2 => exact zah11); (case side3 => exact HC0_2.out); (case side4 => exact zah21); (case side5 => exact (Kd.R_reads' HO_906005.out).2.1); (case side6 => exact zah20); (case side7 => exact (Kd.S_reads' HO_906006.out).2.1); (case side8 => exact zah22); (case side9 => exact (Kd.R_reads' HO_13.out).2.1); rintro e w52 ⟨rfl, hb⟩; refine ⟨_, rfl, ?_⟩; have n0_ := Aside0.mk (Kd.R_below (by (with_reducible repeat (first | apply Kd.R_alloc | apply Kd.R_drewN | apply Kd.R_drew)); exact HO_13.out) hb); have n1_ := Aside0.mk (Kd.R_below zah9 hb); have n2_ := Aside0.mk (Kd.S_below zah12 hb); have n3_ := Aside0.mk (blk_below (g := gb897) (o := .cells #[.int .i64 a0_0, .int .i64 a0_1, .slice A0_2 l0_2.length c0_2] 30 (0, 0)) zah2 hb); have n4_ := Aside0.mk (blk_below (g := gb898) (o := .cells #[.int .i64 a1_0, .int .i64 a1_1] 32 (0, 0)) zah4 hb); have n5_ := Aside0.mk (blk_below (g := gb905) (o := .cells #[.int .i64 a0_0, .int .i64 a0_1, .slice A0_2 l0_2.length c0_2, .int .i64 a1_0, .int .i64 a1_1, .slice Ao50 t899.length co50, .slice Ao51 t902.length co51] 82 (0, 0)) zah5 hb); have n6_ := Aside0.mk (below_step zah1 hb); clear HO_13; clear HO_906005; clear HO_906006; clear BK897; clear BK898; clear BK905; clear HB; have HO_13 := n0_; have HO_906005 := n1_; have HO_906006 := n2_; have BK897 := n3_; have BK898 := n4_; have BK905 := n5_; have HB := n6_; clear n0_ n1_ n2_ n3_ n4_ n5_ n6_; (try clear hb); (try clear hb2); (try clear hk); (try clear hi); (try clear hna_); (try clear hnb_)))
        go_ret2
        exact ⟨_, zah15, zah10, zah1⟩
       rw [if_pos c33] at H
       have c33b0 : decide (x67_3 < (l2.length : Int)) = true := decide_eq_true c33
       have c33b8 := c33b0
       (try simp only [hl13_2, hl13_3] at c33b8)
       clear c33
       by_cases c34 : 0 ≤ x67_3
       rotate_left
       ·rw [if_neg c34] at H
        exact absurd H (by simp)
       rw [if_pos c34] at H
       have c34b0 : decide (0 ≤ x67_3) = true := decide_eq_true c34
       clear c34
       by_cases c35 : x67_3 < (l2.length : Int)
       rotate_left
       ·rw [if_neg c35] at H
        exact absurd H (by simp)
       rw [if_pos c35] at H
       have c35b0 : decide (x67_3 < (l2.length : Int)) = true := decide_eq_true c35
       have c35b8 := c35b0
       (try simp only [hl13_2, hl13_3] at c35b8)
       clear c35
       by_cases c36 : (rd l2 x67_3) = 0
       ·rw [if_pos c36] at H
        have c36b0 : ((rd l2 x67_3) == 0) = true := beq_iff_eq.mpr c36
        have c36b1 : ((rd l2 x67_3) != 0) = false := bne_eq_false_iff_eq.mpr c36
        clear c36
        have H' := Aside0.mk H
        clear H
        have p914 : 0 ≤ (x67_3 : Int) := of_decide_eq_true zah8
        have q914 : x67_3 < (l2.length : Int) := of_decide_eq_true zah8
        obtain ⟨ad914, e914, hx914_0⟩ := Kd.at_int HR2.out x67_3 p914 q914
        cases e914
        (first | replace hx914_0 := (HB.out.cell (World.block_lt_of_cell? w _ hx914_0)).trans hx914_0 | skip)
        replace p914 := eq_true p914
        replace q914 := eq_true q914
        go_wp2
        (try simp only [← hl13_3])
        go_roundg k3
        case measure => have := HK1.out; have := HK2.out; have := HK3.out; omega
        case rel => exact ⟨(x13_3), (wrap64 (x67_3 + 1)), zah14, H', ⟨by have := HK1.out; have := HK2.out; have := HK3.out; omega⟩, ⟨zah23⟩, ⟨by (try simp only [hl13_2]); (try simp only [hl13_3]); (with_reducible repeat (first | apply Kd.R_alloc | apply Kd.R_drewN | apply Kd.R_drew)); exact HO_906005.out⟩, ⟨by (try simp only [hl13_2]); (try simp only [hl13_3]); (with_reducible repeat (first | apply Kd.S_alloc | apply Kd.S_drewN | apply Kd.S_drew)); exact HO_906006.out⟩, ⟨zah19⟩, ⟨zah18⟩, ⟨zah17⟩, ⟨zah1⟩⟩
       rw [if_neg c36] at H
       have c36b0 : ((rd l2 x67_3) == 0) = false := beq_eq_false_iff_ne.mpr c36
       have c36b1 : ((rd l2 x67_3) != 0) = true := bne_iff_ne.mpr c36
       by_cases c37 : (rd l2 x67_3) > x10_1
       ·rw [if_pos c37] at H
        have c37b0 : decide (x10_1 < (rd l2 x67_3)) = true := decide_eq_true c37
        clear c37
        simp only [Option.some.injEq, Prod.mk.injEq] at H
        obtain ⟨rfl, rfl⟩ := H
        have p914 : 0 ≤ (x67_3 : Int) := of_decide_eq_true zah8
        have q914 : x67_3 < (l2.length : Int) := of_decide_eq_true zah8
        obtain ⟨ad914, e914, hx914_0⟩ := Kd.at_int HR2.out x67_3 p914 q914
        cases e914
        (first | replace hx914_0 := (HB.out.cell (World.block_lt_of_cell? w _ hx914_0)).trans hx914_0 | skip)
        replace p914 := eq_true p914
        replace q914 := eq_true q914
        go_wp2
        go_ret2
        exact ⟨_, zah15, zah10, zah1⟩
       rw [if_neg c37] at H
       have c37b0 : decide (x10_1 < (rd l2 x67_3)) = false := decide_eq_false c37
       clear c37
       obtain ⟨ji38, hji38⟩ : ∃ j_ : Int, (wrap64 ((rd l2 x67_3) - 1)) = j_ := ⟨_, rfl⟩
       replace H : (if 0 ≤ (ji38) then (if (ji38) < (x13_3.length : Int) then (if (rd x13_3 (ji38)) ≥ 0 then (some (([] : List Int), false)) else (impl_WalkOfNumbers.l2 k3 x10_1 (x13_3.set ((ji38) : Int).toNat x67_3) l2 (l2.length : Int) (wrap64 (x67_3 + 1)) a0_0 a0_1 l0_2 a1_0 a1_1 t899 t902)) else (none)) else (none)) = some (r1, r2) := by first | (rw [hji38] at H; exact H) | (simp only [hji38] at H ⊢; exact H)
       have hji38w : (IntKind.i64.wrap ((rd l2 x67_3) - 1)) = ji38 := (i64_w _).trans hji38
       by_cases c39 : 0 ≤ (ji38)
       rotate_left
       ·rw [if_neg c39] at H
        exact absurd H (by simp)
       rw [if_pos c39] at H
       have c39b0 : decide (0 ≤ (ji38)) = true := decide_eq_true c39
       clear c39
       by_cases c40 : (ji38) < (x13_3.length : Int)
       rotate_left
       ·rw [if_neg c40] at H
        exact absurd H (by simp)
       rw [if_pos c40] at H
       have c40b0 : decide ((ji38) < (x13_3.length : Int)) = true := decide_eq_true c40
       have c40b8 := c40b0
       (try simp only [hl13_2, hl13_3] at c40b8)
       clear c40
       by_cases c41 : (rd x13_3 (ji38)) ≥ 0
       ·rw [if_pos c41] at H
        have c41b0 : decide (0 ≤ (rd x13_3 (ji38))) = true := decide_eq_true c41
        clear c41
        simp only [Option.some.injEq, Prod.mk.injEq] at H
        obtain ⟨rfl, rfl⟩ := H
        have p914 : 0 ≤ (x67_3 : Int) := of_decide_eq_true zah8
        have q914 : x67_3 < (l2.length : Int) := of_decide_eq_true zah8
        obtain ⟨ad914, e914, hx914_0⟩ := Kd.at_int HR2.out x67_3 p914 q914
        cases e914
        (first | replace hx914_0 := (HB.out.cell (World.block_lt_of_cell? w _ hx914_0)).trans hx914_0 | skip)
        replace p914 := eq_true p914
        replace q914 := eq_true q914
        have p915 : 0 ≤ ((ji38) : Int) := of_decide_eq_true zah8
        have q915 : (ji38) < (x13_3.length : Int) := of_decide_eq_true zah8
        obtain ⟨ad915, e915, hx915_0⟩ := Kd.at_int (Kd.R_reads' HO_13.out).2.2 (ji38) p915 q915
        cases e915
        replace p915 := eq_true p915
        replace q915 := eq_true q915
        go_wp2
        go_ret2
        exact ⟨_, by first | rfl | (simp [errW_none, errW_some] <;> rfl) | (simp only [← hji38]; first | rfl | (simp [errW_none, errW_some] <;> rfl)) | (simp [*, errW_none, errW_some] <;> rfl), zah10, zah1⟩
       rw [if_neg c41] at H
       have c41b0 : decide (0 ≤ (rd x13_3 (ji38))) = false := decide_eq_false c41
       clear c41
       obtain ⟨y916, hy916⟩ : ∃ y_ : List Int, y_ = (x13_3.set ((ji38) : Int).toNat x67_3) := ⟨_, rfl⟩
       replace H : (impl_WalkOfNumbers.l2 k3 x10_1 y916 l2 (l2.length : Int) (wrap64 (x67_3 + 1)) a0_0 a0_1 l0_2 a1_0 a1_1 t899 t902) = some (r1, r2) := by first | (rw [hy916]; with_reducible exact H) | (have H2_ := (Option.bind_some _ _).symm.trans H; rw [hy916]; with_reducible exact H2_) | (have H2_ := (Option.bind_some _ _).symm.trans H; with_reducible exact H2_) | with_reducible exact H | (rw [hy916]; exact H) | exact H
       have Ny916 := Aside0.mk hy916
       clear hy916
       have H' := Aside0.mk H
       clear H
       have p914 : 0 ≤ (x67_3 : Int) := of_decide_eq_true zah8
       have q914 : x67_3 < (l2.length : Int) := of_decide_eq_true zah8
       obtain ⟨ad914, e914, hx914_0⟩ := Kd.at_int HR2.out x67_3 p914 q914
       cases e914
       (first | replace hx914_0 := (HB.out.cell (World.block_lt_of_cell? w _ hx914_0)).trans hx914_0 | skip)
       replace p914 := eq_true p914
       replace q914 := eq_true q914
       have p915 : 0 ≤ ((ji38) : Int) := of_decide_eq_true zah8
       have q915 : (ji38) < (x13_3.length : Int) := of_decide_eq_true zah8
       obtain ⟨ad915, e915, hx915_0⟩ := Kd.at_int (Kd.R_reads' HO_13.out).2.2 (ji38) p915 q915
       cases e915
       replace p915 := eq_true p915
       replace q915 := eq_true q915
       have p42 : 0 ≤ ((ji38) : Int) := of_decide_eq_true zah8
       have q42 : ((ji38) : Int) < ((x13_3.length : Int) : Int) := of_decide_eq_true zah8
       obtain ⟨go42, co42, eo42, gb42, gl42, cl42, HG42⟩ := Kd.R_form HO_13.out (by omega)
       (first | cases eo42 | (injection eo42 with ea_ en_ ec_; (first | subst ea_ | (injection ea_ with ea_; subst ea_)); subst ec_; clear en_))
       have GB42 := Aside0.mk gb42
       have GG42 := Aside0.mk HG42
       clear gb42 gl42 HG42
       (try simp only [add_plain] at *)
       (first | simp only [add_plain] at hx915_0 | skip)
       obtain ⟨hx42_0, hf42_0⟩ := Kd.R_celln 0 HO_13.out ((ji38) : Int) p42 q42
       replace p42 := eq_true p42
       replace q42 := eq_true q42
       have HP43 := Kd.R_putg HO_13.out ((ji38) : Int) x67_3
       go_wp2_with (first | ((with_reducible refine gate_store (t := 3) (p := 89) rfl ?_); refine store_event (t := 3) (p := 89) (v := ?vo_w44) (w1 := (wr.setCell ⟨go42, ((ji38) : Int).toNat, none⟩ (.int .i64 x67_3))) ?hg ?ho ?hn ?hr ?_; (case ho => rfl); (case hg => rfl); (case hn => rfl); (case hr => first | (go_simp; done) | (go_simp; rfl)); intro w44 hw; have hg : wr.grownBy w44 (some go42) := (by rw [hw]; exact HP43.2); have hp_ : Kd.R (Kd.int .i64) 3 w44 w.heap.size (fun k_ => some k_ ≠ (v900 : Value).ownBlock) (.slice (some ⟨go42, 0, none⟩) x13_3.length co26) y916 := (by rw [hw, Ny916.out]; exact HP43.1); clear HP43; have n0_ := Aside0.mk (hp_); have n1_ := Aside0.mk (Kd.R_after (v := (.slice (some ⟨go42, 0, none⟩) x13_3.length co26)) (v1 := (.slice (some ⟨go42, 0, none⟩) x13_3.length co26)) (ok := (fun _ => True)) zah24 hg (.inl rfl)); have n2_ := Aside0.mk (Kd.S_after (v := (.slice (some ⟨go42, 0, none⟩) x13_3.length co26)) (v1 := (.slice (some ⟨go42, 0, none⟩) x13_3.length co26)) (ok := (fun k_ => some k_ ≠ (v900 : Value).ownBlock)) zah16 hg (.inl rfl)); have n3_ := Aside0.mk (blk_grown (g := gb897) (o := .cells #[.int .i64 a0_0, .int .i64 a0_1, .slice A0_2 l0_2.length c0_2] 30 (0, 0)) zah2 hg (Kd.R_ne HO_13.out BK897.out (by decide))); have n4_ := Aside0.mk (blk_grown (g := gb898) (o := .cells #[.int .i64 a1_0, .int .i64 a1_1] 32 (0, 0)) zah4 hg (Kd.R_ne HO_13.out BK898.out (by decide))); have n5_ := Aside0.mk (blk_grown (g := gb905) (o := .cells #[.int .i64 a0_0, .int .i64 a0_1, .slice A0_2 l0_2.length c0_2, .int .i64 a1_0, .int .i64 a1_1, v900, v903] 82 (0, 0)) zah5 hg (Kd.R_ne HO_13.out BK905.out (by decide))); have n6_ := Aside0.mk ((by rw [hw]; exact below_set (HB.out) GB42.out : Below w.heap.size w w44)); clear HO_13; clear HO_906005; clear HO_906006; clear BK897; clear BK898; clear BK905; clear HB; have HO_13 := n0_; have HO_906005 := n1_; have HO_906006 := n2_; have BK897 := n3_; have BK898 := n4_; have BK905 := n5_; have HB := n6_; clear n0_ n1_ n2_ n3_ n4_ n5_ n6_; clear hg hw hp_))
       (try simp only [← hl13_3])
       go_roundg k3
       case measure => have := HK1.out; have := HK2.out; have := HK3.out; omega
       case rel => exact ⟨(y916), (wrap64 (x67_3 + 1)), zah14, H', ⟨by have := HK1.out; have := HK2.out; have := HK3.out; omega⟩, ⟨zah23⟩, ⟨by (try simp only [hl13_2]); (try simp only [hl13_3]); (with_reducible repeat (first | apply Kd.R_alloc | apply Kd.R_drewN | apply Kd.R_drew)); exact Kd.R_mono HO_906005.out (fun _ hk => hk.2)⟩, ⟨by (try simp only [hl13_2]); (try simp only [hl13_3]); (with_reducible repeat (first | apply Kd.S_alloc | apply Kd.S_drewN | apply Kd.S_drew)); exact Kd.S_mono HO_906006.out (fun _ hk => ⟨hk.2, hk.1⟩)⟩, ⟨zah19⟩, ⟨zah18⟩, ⟨zah17⟩, ⟨zah1⟩⟩

end Go.Proofs.Ytjeongckkfkehaa.Q

/- Written by a program of this session: functions of the translation as plain Lean functions, each with a proof that the call does what the plain function says; the conditions stand in each theorem. -/
import Derived.Test.YtbecdckdbeoomaaQ0
import Derived.Test.YtbecdckdbeoomaaQ23
import Derived.Test.YtbecdckdbeoomaaQ26
namespace Go.Proofs.Ytbecdckdbeoomaa.Q
open Go.RowKit Go.Proofs.YtbecdckdbeoomaaW.PrintWords Go.Proofs.YtbecdckdbeoomaaW.PrintLast Go.Proofs.YtbecdckdbeoomaaW.PrintMore
attribute [local go_sem] max2_int min2_int max_two min_two max_three min_three max_four min_four   -- for this text's walks alone
set_option linter.unusedVariables false
set_option linter.unusedSimpArgs false

theorem zy1 {p : Prop} (h : p := by repeat (first | (with_reducible first | exact HB.out | apply below_alloc | apply pw_below_drewN | apply below_drew1 | refine below_set ?_ GE566.out | refine below_set ?_ GE567.out | refine below_set ?_ GE574.out) | exact HB.out)) : p := h
theorem zy2 {p : Prop} (h : p := by first | exact BK566.out | ((with_reducible repeat (first | refine blk_drewN ?_ _ | refine blk_drew ?_ | refine blk_alloc ?_ _)); exact BK566.out)) : p := h
theorem zy3 {p : Prop} (h : p := by first | exact BK574.out | ((with_reducible repeat (first | refine blk_drewN ?_ _ | refine blk_drew ?_ | refine blk_alloc ?_ _)); exact BK574.out)) : p := h
theorem zy4 {p : Prop} (h : p := by repeat (first | (with_reducible first | exact HB.out | apply below_alloc | apply pw_below_drewN | apply below_drew1 | refine below_set ?_ GE566.out | refine below_set ?_ GE567.out) | exact HB.out)) : p := h
theorem zy5 {p : Prop} (h : p := by first | exact BK567.out | ((with_reducible repeat (first | refine blk_drewN ?_ _ | refine blk_drew ?_ | refine blk_alloc ?_ _)); exact BK567.out)) : p := h
theorem zy6 {p : Prop} (h : p := by repeat (first | exact (Kd.C_below HR0_2.out HB.out) | (with_reducible refine Kd.C_alloc ?_ _) | (with_reducible refine Kd.C_drewN ?_ _) | (with_reducible refine Kd.C_drew ?_))) : p := h
theorem zy7 {p : Prop} (h : p := by repeat (first | exact (Kd.C_below HR2.out HB.out) | (with_reducible refine Kd.C_alloc ?_ _) | (with_reducible refine Kd.C_drewN ?_ _) | (with_reducible refine Kd.C_drew ?_))) : p := h
theorem zy8 {p : Prop} (h : p := by repeat (first | exact (Kd.C_below HR3.out HB.out) | (with_reducible refine Kd.C_alloc ?_ _) | (with_reducible refine Kd.C_drewN ?_ _) | (with_reducible refine Kd.C_drew ?_))) : p := h
theorem zy9 {p : Prop} (h : p := by repeat (first | (with_reducible first | exact HB.out | apply below_alloc | apply pw_below_drewN | apply below_drew1 | refine below_set ?_ GE566.out) | exact HB.out)) : p := h
theorem zy10 {p : Prop} (h : p := by (try simp only [List.map_toArray, List.map_cons, List.map_nil]); first | done | rfl | (simp only [List.length_drop, List.length_take]; rfl)) : p := h
theorem zy11 {p : Prop} (h : p := by repeat (first | (with_reducible first | exact HB.out | apply below_alloc | apply pw_below_drewN | apply below_drew1) | exact HB.out)) : p := h
theorem zy12 {p : Prop} (h : p := by first | rfl | (simp; done) | (simp [*]; done)) : p := h
theorem zy13 {p : Prop} (h : p := by first | exact HO_575006.out | ((with_reducible repeat (first | apply Kd.S_alloc | apply Kd.S_drewN | apply Kd.S_drew)); exact HO_575006.out)) : p := h
theorem zy14 {p : Prop} (h : p := by first | exact HO_575005.out | ((with_reducible repeat (first | apply Kd.R_alloc | apply Kd.R_drewN | apply Kd.R_drew)); exact HO_575005.out)) : p := h
theorem zy15 {p : Prop} (h : p := by repeat (first | exact (Kd.S_reads' HO_575006.out).2.2 | (with_reducible refine Kd.C_alloc ?_ _) | (with_reducible refine Kd.C_drewN ?_ _) | (with_reducible refine Kd.C_drew ?_))) : p := h
theorem zy16 {p : Prop} (h : p := by repeat (first | exact (Kd.R_reads' HO_575005.out).2.2 | (with_reducible refine Kd.C_alloc ?_ _) | (with_reducible refine Kd.C_drewN ?_ _) | (with_reducible refine Kd.C_drew ?_))) : p := h
theorem zy17 {p : Prop} (h : p := by repeat (first | exact (Kd.S_reads' HO573.out).2.2 | (with_reducible refine Kd.C_alloc ?_ _) | (with_reducible refine Kd.C_drewN ?_ _) | (with_reducible refine Kd.C_drew ?_))) : p := h
theorem zy18 {p : Prop} (h : p := by repeat (first | exact (Kd.R_reads' HO570.out).2.2 | (with_reducible refine Kd.C_alloc ?_ _) | (with_reducible refine Kd.C_drewN ?_ _) | (with_reducible refine Kd.C_drew ?_))) : p := h
theorem zy19 {p : Prop} (h : p := by have := HJ6.out; have := HK2.out; have := HK3.out; omega) : p := h
theorem zy20 {p : Prop} (h : p := by first | rfl | (simp [errW_none, errW_some] <;> rfl) | (simp [*, errW_none, errW_some] <;> rfl)) : p := h
theorem zy21 {p : Prop} (h : p := by rw [hg]; exact Nat.ne_of_lt (blk_lt (g := gb566) (o := .cells #[.int .i64 a0_0, .int .i64 a0_1, .slice A0_2 l0_2.length c0_2] 30 (0, 0)) zy2)) : p := h
theorem zy22 {p : Prop} (h : p := by rw [hg]; exact Nat.ne_of_gt (blk_lt (g := gb566) (o := .cells #[.int .i64 a0_0, .int .i64 a0_1, .slice A0_2 l0_2.length c0_2] 30 (0, 0)) zy2)) : p := h
/-! ### impl_CountJoins: function 26 -/
mutual
def impl_CountJoins.j0 : Nat → List Int → List Int → Bool → Int → Int → List Int → Int → Int → List Int → List (List Int) → Option (Int × Bool)
 | 0, _, _, _, _, _, _, _, _, _, _ => none
 | k + 1, x2, x3, x38, x575000, x575001, x575002, x575003, x575004, x575005, x575006 => if x38 = true then (some (0, false)) else (impl_CountJoins.l0 k x2 x3 0 (x2.length : Int) 0 x575000 x575001 x575002 x575003 x575004 x575005 x575006)
def impl_CountJoins.l0 : Nat → List Int → List Int → Int → Int → Int → Int → Int → List Int → Int → Int → List Int → List (List Int) → Option (Int × Bool)
 | 0, _, _, _, _, _, _, _, _, _, _, _, _ => none
 | k + 1, x2, x3, x12, x40, x41, x575000, x575001, x575002, x575003, x575004, x575005, x575006 => if x41 < x40 then (impl_CountJoins.l1 k x2 x3 x12 x41 x40 x41 (x3.length : Int) 0 x575000 x575001 x575002 x575003 x575004 x575005 x575006) else (some (x12, true))
def impl_CountJoins.l1 : Nat → List Int → List Int → Int → Int → Int → Int → Int → Int → Int → Int → List Int → Int → Int → List Int → List (List Int) → Option (Int × Bool)
 | 0, _, _, _, _, _, _, _, _, _, _, _, _, _, _, _ => none
 | k + 1, x2, x3, x12, x13, x40, x41, x45, x46, x575000, x575001, x575002, x575003, x575004, x575005, x575006 => if x46 < x45 then ((impl_graph_joins.f k x575000 x575001 x575002 x575003 x575004 x575005 x575006 x2 x3 x13 x46).bind fun bt579 => (if bt579.1 = true then (if bt579.2 = true then (impl_CountJoins.l1 k x2 x3 (wrap64 ((wrap64 (x12 + 1)) + 1)) x13 x40 x41 x45 (wrap64 (x46 + 1)) x575000 x575001 x575002 x575003 x575004 x575005 x575006) else (impl_CountJoins.l1 k x2 x3 (wrap64 (x12 + 1)) x13 x40 x41 x45 (wrap64 (x46 + 1)) x575000 x575001 x575002 x575003 x575004 x575005 x575006)) else (if bt579.2 = true then (impl_CountJoins.l1 k x2 x3 (wrap64 (x12 + 1)) x13 x40 x41 x45 (wrap64 (x46 + 1)) x575000 x575001 x575002 x575003 x575004 x575005 x575006) else (impl_CountJoins.l1 k x2 x3 x12 x13 x40 x41 x45 (wrap64 (x46 + 1)) x575000 x575001 x575002 x575003 x575004 x575005 x575006)))) else (impl_CountJoins.l0 k x2 x3 x12 x40 (wrap64 (x41 + 1)) x575000 x575001 x575002 x575003 x575004 x575005 x575006)
end
def impl_CountJoins.f (k : Nat) (a0_0 : Int) (a0_1 : Int) (l0_2 : List Int) (a1_0 : Int) (a1_1 : Int) (l2 : List Int) (l3 : List Int) : Option (Int × Bool) := (impl_apart.f k a0_0 a0_1 l0_2 a1_0 a1_1 l2 l3).bind fun bt568 => (if bt568.2.2 = true then ((impl_graph_closes.f k a0_0 a0_1 l0_2 a1_0 a1_1 bt568.1 bt568.2.1 l2).bind fun t577 => (if t577 = true then ((impl_graph_closes.f k a0_0 a0_1 l0_2 a1_0 a1_1 bt568.1 bt568.2.1 l3).bind fun t578 => (impl_CountJoins.j0 k l2 l3 (!t578) a0_0 a0_1 l0_2 a1_0 a1_1 bt568.1 bt568.2.1)) else (impl_CountJoins.j0 k l2 l3 true a0_0 a0_1 l0_2 a1_0 a1_1 bt568.1 bt568.2.1))) else (some (0, false)))
set_option maxHeartbeats 8000000 in
set_option maxRecDepth 100000 in
theorem impl_CountJoins.calls (k : Nat) (a0_0 : Int) (a0_1 : Int) (A0_2 : Option Addr) (c0_2 : Nat) (l0_2 : List Int) (a1_0 : Int) (a1_1 : Int) (A2 : Option Addr) (c2 : Nat) (l2 : List Int) (A3 : Option Addr) (c3 : Nat) (l3 : List Int) (r1 : Int) (r2 : Bool) (w : World) (hr0_2 : Kd.C (Kd.int .i64) w A0_2 l0_2.length l0_2) (hc0_2 : l0_2.length ≤ c0_2) (hr2 : Kd.C (Kd.int .i64) w A2 l2.length l2) (hc2 : l2.length ≤ c2) (hr3 : Kd.C (Kd.int .i64) w A3 l3.length l3) (hc3 : l3.length ≤ c3) (h : impl_CountJoins.f k a0_0 a0_1 l0_2 a1_0 a1_1 l2 l3 = some (r1, r2)) :
  Calls Try.prog 26 #[.agg #[.int .i64 a0_0, .int .i64 a0_1, .slice A0_2 l0_2.length c0_2], .agg #[.int .i64 a1_0, .int .i64 a1_1], .slice A2 l2.length c2, .slice A3 l3.length c3] w fun e w' => e = .returned (.tuple #[.int .i64 r1, .bool r2]) ∧ Below w.heap.size w w' := by
 have hu30 := Try.underlying30
 have hu32 := Try.underlying32
 have HR0_2 := Aside0.mk hr0_2
 have HC0_2 := Aside0.mk hc0_2
 clear hr0_2 hc0_2
 have HR2 := Aside0.mk hr2
 have HC2 := Aside0.mk hc2
 clear hr2 hc2
 have HR3 := Aside0.mk hr3
 have HC3 := Aside0.mk hc3
 clear hr3 hc3
 have HB := Aside0.mk (Below.refl w.heap.size w)
 have H : ((impl_apart.f k a0_0 a0_1 l0_2 a1_0 a1_1 l2 l3).bind fun bt568 => (if bt568.2.2 = true then ((impl_graph_closes.f k a0_0 a0_1 l0_2 a1_0 a1_1 bt568.1 bt568.2.1 l2).bind fun t577 => (if t577 = true then ((impl_graph_closes.f k a0_0 a0_1 l0_2 a1_0 a1_1 bt568.1 bt568.2.1 l3).bind fun t578 => (impl_CountJoins.j0 k l2 l3 (!t578) a0_0 a0_1 l0_2 a1_0 a1_1 bt568.1 bt568.2.1)) else (impl_CountJoins.j0 k l2 l3 true a0_0 a0_1 l0_2 a1_0 a1_1 bt568.1 bt568.2.1))) else (some (0, false)))) = some (r1, r2) := h
 clear h
 replace H := Option.bind_eq_some_iff.mp H
 obtain ⟨⟨t568, t571, t576⟩, A50, H⟩ := H
 replace H : (if t576 = true then ((impl_graph_closes.f k a0_0 a0_1 l0_2 a1_0 a1_1 t568 t571 l2).bind fun t577 => (if t577 = true then ((impl_graph_closes.f k a0_0 a0_1 l0_2 a1_0 a1_1 t568 t571 l3).bind fun t578 => (impl_CountJoins.j0 k l2 l3 (!t578) a0_0 a0_1 l0_2 a1_0 a1_1 t568 t571)) else (impl_CountJoins.j0 k l2 l3 true a0_0 a0_1 l0_2 a1_0 a1_1 t568 t571))) else (some (0, false))) = some (r1, r2) := H
 have A5 := Aside0.mk A50
 clear A50
 by_cases c6 : t576 = true
 rotate_left
 ·replace c6 := Bool.eq_false_iff.mpr c6
  subst c6
  have H1 : (some (0, false)) = some (r1, r2) := by rw [if_neg (show ¬ (false = true) by decide)] at H; exact H
  clear H
  have H := H1
  clear H1
  simp only [Option.some.injEq, Prod.mk.injEq] at H
  obtain ⟨rfl, rfl⟩ := H
  go_enter Try.func26, Try.ntmps26
  go_wp2_with (first | ((with_reducible refine gate_dst (N := 4) rfl ?_); refine box_event ?hg (N := 4) ?hd (cs := #[.int .i64 a0_0, .int .i64 a0_1, .slice A0_2 l0_2.length c0_2]) (t := 30) ?hr ?_; (case hd => rfl); (case hg => rfl); (case hr => first | (go_simp; done) | (go_simp; rfl)); intro gb566 hg w36 hbox hb; have n0_ := Aside0.mk (below_step zy11 hb); have n1_ := Aside0.mk (hbox); have n2_ := Aside0.mk ((by rw [hg]; exact (below_size zy11) : w.heap.size ≤ gb566)); have n3_ := Aside0.mk ((by rw [hg]; exact (below_size zy11) : w.heap.size ≤ gb566)); clear HB; have HB := n0_; have BK566 := n1_; have GW566 := n2_; have GE566 := n3_; clear n0_ n1_ n2_ n3_; clear hb hbox hg) | ((with_reducible refine gate_dst (N := 5) rfl ?_); refine box_event ?hg (N := 5) ?hd (cs := #[.int .i64 a1_0, .int .i64 a1_1]) (t := 32) ?hr ?_; (case hd => rfl); (case hg => rfl); (case hr => first | (go_simp; done) | (go_simp; rfl)); intro gb567 hg w37 hbox hb; have n0_ := Aside0.mk (blk_below (g := gb566) (o := .cells #[.int .i64 a0_0, .int .i64 a0_1, .slice A0_2 l0_2.length c0_2] 30 (0, 0)) zy2 hb); have n1_ := Aside0.mk (below_step zy9 hb); have n2_ := Aside0.mk (hbox); have n3_ := Aside0.mk ((by rw [hg]; exact (below_size zy9) : w.heap.size ≤ gb567)); have n4_ := Aside0.mk ((by rw [hg]; exact (below_size zy9) : w.heap.size ≤ gb567)); have n5_ := Aside0.mk ((zy21 : gb566 ≠ gb567)); have n6_ := Aside0.mk ((zy22 : gb567 ≠ gb566)); clear BK566; clear HB; have BK566 := n0_; have HB := n1_; have BK567 := n2_; have GW567 := n3_; have GE567 := n4_; have NB566_567 := n5_; have NB567_566 := n6_; clear n0_ n1_ n2_ n3_ n4_ n5_ n6_; clear hb hbox hg; have hnb38 := NB566_567.out; have hnc38 := NB567_566.out; have hcz39_0 : w37.cell? ⟨gb566, 0, none⟩ = some (.int .i64 a0_0) := (blk_cell BK566.out 0).trans rfl; have hcz39_1 : w37.cell? ⟨gb566, 1, none⟩ = some (.int .i64 a0_1) := (blk_cell BK566.out 1).trans rfl; have hcz39_2 : w37.cell? ⟨gb566, 2, none⟩ = some (.slice A0_2 l0_2.length c0_2) := (blk_cell BK566.out 2).trans rfl; have hfz39_0 := blk_frozen BK566.out 0; have hfz39_1 := blk_frozen BK566.out 1; have hfz39_2 := blk_frozen BK566.out 2; have hcz40_0 : w37.cell? ⟨gb567, 0, none⟩ = some (.int .i64 a1_0) := (blk_cell BK567.out 0).trans rfl; have hcz40_1 : w37.cell? ⟨gb567, 1, none⟩ = some (.int .i64 a1_1) := (blk_cell BK567.out 1).trans rfl; have hfz40_0 := blk_frozen BK567.out 0; have hfz40_1 := blk_frozen BK567.out 1) | ((with_reducible refine gate_callee (f := 51) rfl ?_); refine goesL_ (some 22) rfl rfl Try.func51 (by kernel_rfl) rfl #[.agg #[.int .i64 a0_0, .int .i64 a0_1, .slice A0_2 l0_2.length c0_2], .agg #[.int .i64 a1_0, .int .i64 a1_1], .slice A2 l2.length c2, .slice A3 l3.length c3] rfl zy10 ?_; (with_reducible refine (impl_apart.calls k a0_0 a0_1 _ _ l0_2 a1_0 a1_1 _ _ l2 _ _ l3 t568 t571 false _ ?side1 ?side2 ?side3 ?side4 ?side5 ?side6 A5.out).mono ?_); (case side1 => exact zy6); (case side2 => exact HC0_2.out); (case side3 => exact zy7); (case side4 => exact HC2.out); (case side5 => exact zy8); (case side6 => exact HC3.out); rintro e w41 ⟨v569, v572, pv575, rfl, hgp, ho0, ho1, hb⟩; refine ⟨_, rfl, ?_⟩; obtain rfl := hgp.2 rfl; have n0_ := Aside0.mk (Kd.R_lower ho0 (below_size zy4)); have n1_ := Aside0.mk (Kd.S_lower ho1 (below_size zy4)); have n2_ := Aside0.mk (blk_below (g := gb566) (o := .cells #[.int .i64 a0_0, .int .i64 a0_1, .slice A0_2 l0_2.length c0_2] 30 (0, 0)) zy2 hb); have n3_ := Aside0.mk (blk_below (g := gb567) (o := .cells #[.int .i64 a1_0, .int .i64 a1_1] 32 (0, 0)) zy5 hb); have n4_ := Aside0.mk (below_step zy4 hb); clear BK566; clear BK567; clear HB; have HO570 := n0_; have HO573 := n1_; have BK566 := n2_; have BK567 := n3_; have HB := n4_; clear n0_ n1_ n2_ n3_ n4_; (try clear hb); (try clear hb2); (try clear hk); (try clear hi); (try clear ho0); (try clear ho1); (try clear hgp); (try clear hbox); (try clear hge); (try clear hna_); (try clear hnb_)))
  go_ret2
  exact ⟨zy20, zy4⟩
 subst c6
 have H1 : ((impl_graph_closes.f k a0_0 a0_1 l0_2 a1_0 a1_1 t568 t571 l2).bind fun t577 => (if t577 = true then ((impl_graph_closes.f k a0_0 a0_1 l0_2 a1_0 a1_1 t568 t571 l3).bind fun t578 => (impl_CountJoins.j0 k l2 l3 (!t578) a0_0 a0_1 l0_2 a1_0 a1_1 t568 t571)) else (impl_CountJoins.j0 k l2 l3 true a0_0 a0_1 l0_2 a1_0 a1_1 t568 t571))) = some (r1, r2) := by rw [if_pos rfl] at H; exact H
 clear H
 have H := H1
 clear H1
 have HC7 := Aside0.mk H
 clear H
 go_enter Try.func26, Try.ntmps26
 go_upto_region 2 with (first | ((with_reducible refine gate_dst (N := 4) rfl ?_); refine box_event ?hg (N := 4) ?hd (cs := #[.int .i64 a0_0, .int .i64 a0_1, .slice A0_2 l0_2.length c0_2]) (t := 30) ?hr ?_; (case hd => rfl); (case hg => rfl); (case hr => first | (go_simp; done) | (go_simp; rfl)); intro gb566 hg w8 hbox hb; have n0_ := Aside0.mk (below_step zy11 hb); have n1_ := Aside0.mk (hbox); have n2_ := Aside0.mk ((by rw [hg]; exact (below_size zy11) : w.heap.size ≤ gb566)); have n3_ := Aside0.mk ((by rw [hg]; exact (below_size zy11) : w.heap.size ≤ gb566)); clear HB; have HB := n0_; have BK566 := n1_; have GW566 := n2_; have GE566 := n3_; clear n0_ n1_ n2_ n3_; clear hb hbox hg) | ((with_reducible refine gate_dst (N := 5) rfl ?_); refine box_event ?hg (N := 5) ?hd (cs := #[.int .i64 a1_0, .int .i64 a1_1]) (t := 32) ?hr ?_; (case hd => rfl); (case hg => rfl); (case hr => first | (go_simp; done) | (go_simp; rfl)); intro gb567 hg w9 hbox hb; have n0_ := Aside0.mk (blk_below (g := gb566) (o := .cells #[.int .i64 a0_0, .int .i64 a0_1, .slice A0_2 l0_2.length c0_2] 30 (0, 0)) zy2 hb); have n1_ := Aside0.mk (below_step zy9 hb); have n2_ := Aside0.mk (hbox); have n3_ := Aside0.mk ((by rw [hg]; exact (below_size zy9) : w.heap.size ≤ gb567)); have n4_ := Aside0.mk ((by rw [hg]; exact (below_size zy9) : w.heap.size ≤ gb567)); have n5_ := Aside0.mk ((zy21 : gb566 ≠ gb567)); have n6_ := Aside0.mk ((zy22 : gb567 ≠ gb566)); clear BK566; clear HB; have BK566 := n0_; have HB := n1_; have BK567 := n2_; have GW567 := n3_; have GE567 := n4_; have NB566_567 := n5_; have NB567_566 := n6_; clear n0_ n1_ n2_ n3_ n4_ n5_ n6_; clear hb hbox hg; have hnb10 := NB566_567.out; have hnc10 := NB567_566.out; have hcz11_0 : w9.cell? ⟨gb566, 0, none⟩ = some (.int .i64 a0_0) := (blk_cell BK566.out 0).trans rfl; have hcz11_1 : w9.cell? ⟨gb566, 1, none⟩ = some (.int .i64 a0_1) := (blk_cell BK566.out 1).trans rfl; have hcz11_2 : w9.cell? ⟨gb566, 2, none⟩ = some (.slice A0_2 l0_2.length c0_2) := (blk_cell BK566.out 2).trans rfl; have hfz11_0 := blk_frozen BK566.out 0; have hfz11_1 := blk_frozen BK566.out 1; have hfz11_2 := blk_frozen BK566.out 2; have hcz12_0 : w9.cell? ⟨gb567, 0, none⟩ = some (.int .i64 a1_0) := (blk_cell BK567.out 0).trans rfl; have hcz12_1 : w9.cell? ⟨gb567, 1, none⟩ = some (.int .i64 a1_1) := (blk_cell BK567.out 1).trans rfl; have hfz12_0 := blk_frozen BK567.out 0; have hfz12_1 := blk_frozen BK567.out 1) | ((with_reducible refine gate_callee (f := 51) rfl ?_); refine goesL_ (some 22) rfl rfl Try.func51 (by kernel_rfl) rfl #[.agg #[.int .i64 a0_0, .int .i64 a0_1, .slice A0_2 l0_2.length c0_2], .agg #[.int .i64 a1_0, .int .i64 a1_1], .slice A2 l2.length c2, .slice A3 l3.length c3] rfl zy10 ?_; (with_reducible refine (impl_apart.calls k a0_0 a0_1 _ _ l0_2 a1_0 a1_1 _ _ l2 _ _ l3 t568 t571 true _ ?side1 ?side2 ?side3 ?side4 ?side5 ?side6 A5.out).mono ?_); (case side1 => exact zy6); (case side2 => exact HC0_2.out); (case side3 => exact zy7); (case side4 => exact HC2.out); (case side5 => exact zy8); (case side6 => exact HC3.out); rintro e w13 ⟨v569, v572, pv575, rfl, hgp, ho0, ho1, hb⟩; refine ⟨_, rfl, ?_⟩; obtain ⟨gb574, rfl, hbox, hge⟩ := hgp.1 rfl; have n0_ := Aside0.mk (Kd.R_lower ho0 (below_size zy4)); have n1_ := Aside0.mk (Kd.S_lower ho1 (below_size zy4)); have n2_ := Aside0.mk (blk_below (g := gb566) (o := .cells #[.int .i64 a0_0, .int .i64 a0_1, .slice A0_2 l0_2.length c0_2] 30 (0, 0)) zy2 hb); have n3_ := Aside0.mk (blk_below (g := gb567) (o := .cells #[.int .i64 a1_0, .int .i64 a1_1] 32 (0, 0)) zy5 hb); have n4_ := Aside0.mk (hbox); have n5_ := Aside0.mk ((Nat.le_trans (by exact (below_size zy4)) hge : w.heap.size ≤ gb574)); have n6_ := Aside0.mk ((Nat.le_trans (by exact (below_size zy4)) hge : w.heap.size ≤ gb574)); have n7_ := Aside0.mk ((Nat.ne_of_lt (Nat.lt_of_lt_of_le (blk_lt (g := gb566) (o := .cells #[.int .i64 a0_0, .int .i64 a0_1, .slice A0_2 l0_2.length c0_2] 30 (0, 0)) zy2) hge) : gb566 ≠ gb574)); have n8_ := Aside0.mk ((Nat.ne_of_gt (Nat.lt_of_lt_of_le (blk_lt (g := gb566) (o := .cells #[.int .i64 a0_0, .int .i64 a0_1, .slice A0_2 l0_2.length c0_2] 30 (0, 0)) zy2) hge) : gb574 ≠ gb566)); have n9_ := Aside0.mk ((Nat.ne_of_lt (Nat.lt_of_lt_of_le (blk_lt (g := gb567) (o := .cells #[.int .i64 a1_0, .int .i64 a1_1] 32 (0, 0)) zy5) hge) : gb567 ≠ gb574)); have n10_ := Aside0.mk ((Nat.ne_of_gt (Nat.lt_of_lt_of_le (blk_lt (g := gb567) (o := .cells #[.int .i64 a1_0, .int .i64 a1_1] 32 (0, 0)) zy5) hge) : gb574 ≠ gb567)); have n11_ := Aside0.mk (below_step zy4 hb); clear BK566; clear BK567; clear HB; have HO570 := n0_; have HO573 := n1_; have BK566 := n2_; have BK567 := n3_; have BK574 := n4_; have GW574 := n5_; have GE574 := n6_; have NB566_574 := n7_; have NB574_566 := n8_; have NB567_574 := n9_; have NB574_567 := n10_; have HB := n11_; clear n0_ n1_ n2_ n3_ n4_ n5_ n6_ n7_ n8_ n9_ n10_ n11_; (try clear hb); (try clear hb2); (try clear hk); (try clear hi); (try clear ho0); (try clear ho1); (try clear hgp); (try clear hbox); (try clear hge); (try clear hna_); (try clear hnb_)))
 (try simp only [Act.put, List.setIfInBounds_toArray, List.set_cons_zero, List.set_cons_succ])
 go_cut [38] (fun v38 wc => ∃ (kq : Nat) (x38_6 : Bool), v38 = .bool x38_6 ∧ Aside0 (impl_CountJoins.j0 kq l2 l3 x38_6 a0_0 a0_1 l0_2 a1_0 a1_1 t568 t571 = some (r1, r2)) ∧ Aside0 (kq ≤ k) ∧ Aside0 (Kd.R (Kd.int .i64) 3 wc w.heap.size (fun _ => True) v569 t568) ∧ Aside0 (Kd.S (Kd.slice 3 (Kd.int .i64)) 22 wc w.heap.size (fun k_ => some k_ ≠ (v569 : Value).ownBlock) v572 t571) ∧ Aside0 (wc.heap[gb566]? = some (.cells #[.int .i64 a0_0, .int .i64 a0_1, (.slice A0_2 l0_2.length c0_2)] 30 (0, 0))) ∧ Aside0 (wc.heap[gb567]? = some (.cells #[.int .i64 a1_0, .int .i64 a1_1] 32 (0, 0))) ∧ Aside0 (wc.heap[gb574]? = some (.cells #[.int .i64 a0_0, .int .i64 a0_1, (.slice A0_2 l0_2.length c0_2), .int .i64 a1_0, .int .i64 a1_1, v569, v572] 84 (0, 0))) ∧ Aside0 (Below w.heap.size w wc))
 case first =>
  have H := HC7.out
  clear HC7
  replace H := Option.bind_eq_some_iff.mp H
  obtain ⟨t577, A140, H⟩ := H
  replace H : (if t577 = true then ((impl_graph_closes.f k a0_0 a0_1 l0_2 a1_0 a1_1 t568 t571 l3).bind fun t578 => (impl_CountJoins.j0 k l2 l3 (!t578) a0_0 a0_1 l0_2 a1_0 a1_1 t568 t571)) else (impl_CountJoins.j0 k l2 l3 true a0_0 a0_1 l0_2 a1_0 a1_1 t568 t571)) = some (r1, r2) := H
  have A14 := Aside0.mk A140
  clear A140
  by_cases c15 : t577 = true
  rotate_left
  ·replace c15 := Bool.eq_false_iff.mpr c15
   subst c15
   have H1 : (impl_CountJoins.j0 k l2 l3 true a0_0 a0_1 l0_2 a1_0 a1_1 t568 t571) = some (r1, r2) := by rw [if_neg (show ¬ (false = true) by decide)] at H; exact H
   clear H
   have H := H1
   clear H1
   have H' := Aside0.mk H
   clear H
   obtain ⟨Ao19, co19, eo19⟩ := Kd.R_slice HO570.out
   subst eo19
   obtain ⟨Ao20, co20, eo20⟩ := Kd.S_slice HO573.out
   subst eo20
   go_wp2_with (first | (go_at_call 52; (with_reducible refine (impl_graph_closes.calls k gb574 a0_0 a0_1 A0_2 c0_2 l0_2 a1_0 a1_1 Ao19 co19 t568 Ao20 co20 t571 _ _ l2 false _ ?side1 ?side2 ?side3 ?side4 ?side5 ?side6 ?side7 ?side8 ?side9 A14.out).mono ?_); (case side1 => exact zy3); (case side2 => exact zy6); (case side3 => exact HC0_2.out); (case side4 => exact zy18); (case side5 => exact (Kd.R_reads' HO570.out).2.1); (case side6 => exact zy17); (case side7 => exact (Kd.S_reads' HO573.out).2.1); (case side8 => exact zy7); (case side9 => exact HC2.out); rintro e w' ⟨rfl, ⟨nd, rfl⟩⟩))
   go_meet
   case rel => exact ⟨_, (true), zy12, H', ⟨by first | omega | exact Nat.le_refl _⟩, ⟨by first | exact HO570.out | ((with_reducible repeat (first | apply Kd.R_alloc | apply Kd.R_drewN | apply Kd.R_drew)); exact HO570.out)⟩, ⟨by first | exact HO573.out | ((with_reducible repeat (first | apply Kd.S_alloc | apply Kd.S_drewN | apply Kd.S_drew)); exact HO573.out)⟩, ⟨zy2⟩, ⟨zy5⟩, ⟨zy3⟩, ⟨zy1⟩⟩
  subst c15
  have H1 : ((impl_graph_closes.f k a0_0 a0_1 l0_2 a1_0 a1_1 t568 t571 l3).bind fun t578 => (impl_CountJoins.j0 k l2 l3 (!t578) a0_0 a0_1 l0_2 a1_0 a1_1 t568 t571)) = some (r1, r2) := by rw [if_pos rfl] at H; exact H
  clear H
  have H := H1
  clear H1
  replace H := Option.bind_eq_some_iff.mp H
  obtain ⟨t578, A160, H⟩ := H
  replace H : (impl_CountJoins.j0 k l2 l3 (!t578) a0_0 a0_1 l0_2 a1_0 a1_1 t568 t571) = some (r1, r2) := H
  have A16 := Aside0.mk A160
  clear A160
  have H' := Aside0.mk H
  clear H
  obtain ⟨Ao17, co17, eo17⟩ := Kd.R_slice HO570.out
  subst eo17
  obtain ⟨Ao18, co18, eo18⟩ := Kd.S_slice HO573.out
  subst eo18
  go_wp2_with (first | (go_at_call 52; (with_reducible refine (impl_graph_closes.calls k gb574 a0_0 a0_1 A0_2 c0_2 l0_2 a1_0 a1_1 Ao17 co17 t568 Ao18 co18 t571 _ _ l2 true _ ?side1 ?side2 ?side3 ?side4 ?side5 ?side6 ?side7 ?side8 ?side9 A14.out).mono ?_); (case side1 => exact zy3); (case side2 => exact zy6); (case side3 => exact HC0_2.out); (case side4 => exact zy18); (case side5 => exact (Kd.R_reads' HO570.out).2.1); (case side6 => exact zy17); (case side7 => exact (Kd.S_reads' HO573.out).2.1); (case side8 => exact zy7); (case side9 => exact HC2.out); rintro e w' ⟨rfl, ⟨nd, rfl⟩⟩) | (go_at_call 52; (with_reducible refine (impl_graph_closes.calls k gb574 a0_0 a0_1 A0_2 c0_2 l0_2 a1_0 a1_1 Ao17 co17 t568 Ao18 co18 t571 _ _ l3 t578 _ ?side1 ?side2 ?side3 ?side4 ?side5 ?side6 ?side7 ?side8 ?side9 A16.out).mono ?_); (case side1 => exact zy3); (case side2 => repeat (first | exact (Kd.C_below HR0_2.out zy1) | (with_reducible refine Kd.C_alloc ?_ _) | (with_reducible refine Kd.C_drewN ?_ _) | (with_reducible refine Kd.C_drew ?_))); (case side3 => exact HC0_2.out); (case side4 => exact zy18); (case side5 => exact (Kd.R_reads' HO570.out).2.1); (case side6 => exact zy17); (case side7 => exact (Kd.S_reads' HO573.out).2.1); (case side8 => repeat (first | exact (Kd.C_below HR3.out zy1) | (with_reducible refine Kd.C_alloc ?_ _) | (with_reducible refine Kd.C_drewN ?_ _) | (with_reducible refine Kd.C_drew ?_))); (case side9 => exact HC3.out); rintro e w' ⟨rfl, ⟨nd, rfl⟩⟩))
  go_meet
  case rel => exact ⟨_, (!t578), zy12, H', ⟨by first | omega | exact Nat.le_refl _⟩, ⟨by first | exact HO570.out | ((with_reducible repeat (first | apply Kd.R_alloc | apply Kd.R_drewN | apply Kd.R_drew)); exact HO570.out)⟩, ⟨by first | exact HO573.out | ((with_reducible repeat (first | apply Kd.S_alloc | apply Kd.S_drewN | apply Kd.S_drew)); exact HO573.out)⟩, ⟨zy2⟩, ⟨zy5⟩, ⟨zy3⟩, ⟨zy1⟩⟩
 case rest =>
  clear HC7
  try clear c1; try clear c2; try clear p2; try clear c3; try clear c5; try clear c6; try clear c10; try clear c15; try clear hcz11_0; try clear hcz11_1; try clear hcz11_2; try clear hcz12_0; try clear hcz12_1; try clear hfz11_0; try clear hfz11_1; try clear hfz11_2; try clear hfz12_0; try clear hfz12_1
  obtain ⟨kq, x38_6, rfl, HA, HJ6, HO_575005, HO_575006, BK566, BK567, BK574, HB⟩ := hcut
  cases kq with
  | zero => exact absurd HA.out (by simp [impl_CountJoins.j0])
  | succ kj6 =>
   have H := HA.out
   clear HA
   simp only [impl_CountJoins.j0] at H
   by_cases c21 : x38_6 = true
   ·subst c21
    have H1 : (some (0, false)) = some (r1, r2) := by rw [if_pos rfl] at H; exact H
    clear H
    have H := H1
    clear H1
    simp only [Option.some.injEq, Prod.mk.injEq] at H
    obtain ⟨rfl, rfl⟩ := H
    go_wp2
    go_ret2
    exact ⟨zy20, zy1⟩
   replace c21 := Bool.eq_false_iff.mpr c21
   subst c21
   have H1 : (impl_CountJoins.l0 kj6 l2 l3 0 (l2.length : Int) 0 a0_0 a0_1 l0_2 a1_0 a1_1 t568 t571) = some (r1, r2) := by rw [if_neg (show ¬ (false = true) by decide)] at H; exact H
   clear H
   have H := H1
   clear H1
   have H' := Aside0.mk H
   clear H
   go_wp2
   go_loopg [12, 41] kj6 (fun kq v12 v41 w' => ∃ (x12_2 : Int) (x41_2 : Int), v12 = .int .i64 x12_2 ∧ v41 = .int .i64 x41_2 ∧ Aside0 (impl_CountJoins.l0 kq l2 l3 x12_2 (l2.length : Int) x41_2 a0_0 a0_1 l0_2 a1_0 a1_1 t568 t571 = some (r1, r2)) ∧ Aside0 (kq ≤ kj6) ∧ Aside0 (Kd.R (Kd.int .i64) 3 w' w.heap.size (fun _ => True) v569 t568) ∧ Aside0 (Kd.S (Kd.slice 3 (Kd.int .i64)) 22 w' w.heap.size (fun k_ => some k_ ≠ (v569 : Value).ownBlock) v572 t571) ∧ Aside0 (w'.heap[gb566]? = some (.cells #[.int .i64 a0_0, .int .i64 a0_1, (.slice A0_2 l0_2.length c0_2)] 30 (0, 0))) ∧ Aside0 (w'.heap[gb567]? = some (.cells #[.int .i64 a1_0, .int .i64 a1_1] 32 (0, 0))) ∧ Aside0 (w'.heap[gb574]? = some (.cells #[.int .i64 a0_0, .int .i64 a0_1, (.slice A0_2 l0_2.length c0_2), .int .i64 a1_0, .int .i64 a1_1, v569, v572] 84 (0, 0))) ∧ Aside0 (Below w.heap.size w w'))
   case atStart => exact ⟨(0), (0), zy12, zy12, H', ⟨Nat.le_refl _⟩, ⟨zy14⟩, ⟨zy13⟩, ⟨zy2⟩, ⟨zy5⟩, ⟨zy3⟩, ⟨zy1⟩⟩
   case round =>
    clear H'
    try clear c1; try clear c2; try clear p2; try clear c3; try clear c5; try clear c6; try clear c10; try clear c15; try clear c21; try clear hcz11_0; try clear hcz11_1; try clear hcz11_2; try clear hcz12_0; try clear hcz12_1; try clear hfz11_0; try clear hfz11_1; try clear hfz11_2; try clear hfz12_0; try clear hfz12_1; try clear p2
    obtain ⟨x12_2, x41_2, rfl, rfl, HA, HK2, HO_575005, HO_575006, BK566, BK567, BK574, HB⟩ := hrel
    cases gk with
    | zero => exact absurd HA.out (by simp [impl_CountJoins.l0])
    | succ k2 =>
     have H := HA.out
     clear HA
     simp only [impl_CountJoins.l0] at H
     by_cases c22 : x41_2 < (l2.length : Int)
     rotate_left
     ·rw [if_neg c22] at H
      have c22b0 : decide (x41_2 < (l2.length : Int)) = false := decide_eq_false c22
      clear c22
      simp only [Option.some.injEq, Prod.mk.injEq] at H
      obtain ⟨rfl, rfl⟩ := H
      go_wp2
      go_ret2
      exact ⟨zy20, zy1⟩
     rw [if_pos c22] at H
     have c22b0 : decide (x41_2 < (l2.length : Int)) = true := decide_eq_true c22
     clear c22
     have H' := Aside0.mk H
     clear H
     go_wp2
     go_loopg [12, 46] k2 (fun kq v12 v46 w' => ∃ (x12_3 : Int) (x46_3 : Int), v12 = .int .i64 x12_3 ∧ v46 = .int .i64 x46_3 ∧ Aside0 (impl_CountJoins.l1 kq l2 l3 x12_3 x41_2 (l2.length : Int) x41_2 (l3.length : Int) x46_3 a0_0 a0_1 l0_2 a1_0 a1_1 t568 t571 = some (r1, r2)) ∧ Aside0 (kq ≤ k2) ∧ Aside0 (Kd.R (Kd.int .i64) 3 w' w.heap.size (fun _ => True) v569 t568) ∧ Aside0 (Kd.S (Kd.slice 3 (Kd.int .i64)) 22 w' w.heap.size (fun k_ => some k_ ≠ (v569 : Value).ownBlock) v572 t571) ∧ Aside0 (w'.heap[gb566]? = some (.cells #[.int .i64 a0_0, .int .i64 a0_1, (.slice A0_2 l0_2.length c0_2)] 30 (0, 0))) ∧ Aside0 (w'.heap[gb567]? = some (.cells #[.int .i64 a1_0, .int .i64 a1_1] 32 (0, 0))) ∧ Aside0 (w'.heap[gb574]? = some (.cells #[.int .i64 a0_0, .int .i64 a0_1, (.slice A0_2 l0_2.length c0_2), .int .i64 a1_0, .int .i64 a1_1, v569, v572] 84 (0, 0))) ∧ Aside0 (Below w.heap.size w w'))
     case atStart => exact ⟨(x12_2), (0), zy12, zy12, H', ⟨Nat.le_refl _⟩, ⟨zy14⟩, ⟨zy13⟩, ⟨zy2⟩, ⟨zy5⟩, ⟨zy3⟩, ⟨zy1⟩⟩
     case round =>
      clear H'
      try clear c1; try clear c2; try clear p2; try clear c3; try clear c5; try clear c6; try clear c10; try clear c15; try clear c21; try clear c22; try clear c22b0; try clear hcz11_0; try clear hcz11_1; try clear hcz11_2; try clear hcz12_0; try clear hcz12_1; try clear hfz11_0; try clear hfz11_1; try clear hfz11_2; try clear hfz12_0; try clear hfz12_1; try clear p2
      obtain ⟨x12_3, x46_3, rfl, rfl, HA, HK3, HO_575005, HO_575006, BK566, BK567, BK574, HB⟩ := hrel
      cases gk with
      | zero => exact absurd HA.out (by simp [impl_CountJoins.l1])
      | succ k3 =>
       have H := HA.out
       clear HA
       simp only [impl_CountJoins.l1] at H
       by_cases c23 : x46_3 < (l3.length : Int)
       rotate_left
       ·rw [if_neg c23] at H
        have c23b0 : decide (x46_3 < (l3.length : Int)) = false := decide_eq_false c23
        clear c23
        have H' := Aside0.mk H
        clear H
        go_wp2
        go_roundg k3
        case measure => have := HJ6.out; have := HK2.out; have := HK3.out; omega
        case rel => exact ⟨(x12_3), (wrap64 (x41_2 + 1)), zy12, zy12, H', ⟨zy19⟩, ⟨zy14⟩, ⟨zy13⟩, ⟨zy2⟩, ⟨zy5⟩, ⟨zy3⟩, ⟨zy1⟩⟩
       rw [if_pos c23] at H
       have c23b0 : decide (x46_3 < (l3.length : Int)) = true := decide_eq_true c23
       clear c23
       replace H := Option.bind_eq_some_iff.mp H
       obtain ⟨⟨t579, t580⟩, A240, H⟩ := H
       replace H : (if t579 = true then (if t580 = true then (impl_CountJoins.l1 k3 l2 l3 (wrap64 ((wrap64 (x12_3 + 1)) + 1)) x41_2 (l2.length : Int) x41_2 (l3.length : Int) (wrap64 (x46_3 + 1)) a0_0 a0_1 l0_2 a1_0 a1_1 t568 t571) else (impl_CountJoins.l1 k3 l2 l3 (wrap64 (x12_3 + 1)) x41_2 (l2.length : Int) x41_2 (l3.length : Int) (wrap64 (x46_3 + 1)) a0_0 a0_1 l0_2 a1_0 a1_1 t568 t571)) else (if t580 = true then (impl_CountJoins.l1 k3 l2 l3 (wrap64 (x12_3 + 1)) x41_2 (l2.length : Int) x41_2 (l3.length : Int) (wrap64 (x46_3 + 1)) a0_0 a0_1 l0_2 a1_0 a1_1 t568 t571) else (impl_CountJoins.l1 k3 l2 l3 x12_3 x41_2 (l2.length : Int) x41_2 (l3.length : Int) (wrap64 (x46_3 + 1)) a0_0 a0_1 l0_2 a1_0 a1_1 t568 t571))) = some (r1, r2) := H
       have A24 := Aside0.mk A240
       clear A240
       by_cases c25 : t579 = true
       ·subst c25
        have H1 : (if t580 = true then (impl_CountJoins.l1 k3 l2 l3 (wrap64 ((wrap64 (x12_3 + 1)) + 1)) x41_2 (l2.length : Int) x41_2 (l3.length : Int) (wrap64 (x46_3 + 1)) a0_0 a0_1 l0_2 a1_0 a1_1 t568 t571) else (impl_CountJoins.l1 k3 l2 l3 (wrap64 (x12_3 + 1)) x41_2 (l2.length : Int) x41_2 (l3.length : Int) (wrap64 (x46_3 + 1)) a0_0 a0_1 l0_2 a1_0 a1_1 t568 t571)) = some (r1, r2) := by rw [if_pos rfl] at H; exact H
        clear H
        have H := H1
        clear H1
        by_cases c26 : t580 = true
        ·subst c26
         have H1 : (impl_CountJoins.l1 k3 l2 l3 (wrap64 ((wrap64 (x12_3 + 1)) + 1)) x41_2 (l2.length : Int) x41_2 (l3.length : Int) (wrap64 (x46_3 + 1)) a0_0 a0_1 l0_2 a1_0 a1_1 t568 t571) = some (r1, r2) := by rw [if_pos rfl] at H; exact H
         clear H
         have H := H1
         clear H1
         have H' := Aside0.mk H
         clear H
         obtain ⟨Ao27, co27, eo27⟩ := Kd.R_slice HO_575005.out
         subst eo27
         obtain ⟨Ao28, co28, eo28⟩ := Kd.S_slice HO_575006.out
         subst eo28
         go_wp2_with (first | ((with_reducible refine gate_callee (f := 53) rfl ?_); refine goesL_ (some 55) rfl rfl Try.func53 (by kernel_rfl) rfl #[.pointer (some ⟨gb574, 0, none⟩), .slice A2 l2.length c2, .slice A3 l3.length c3, .int .i64 x41_2, .int .i64 x46_3] rfl zy10 ?_; (with_reducible refine (impl_graph_joins.calls k3 gb574 a0_0 a0_1 A0_2 c0_2 l0_2 a1_0 a1_1 Ao27 co27 t568 Ao28 co28 t571 _ _ l2 _ _ l3 x41_2 x46_3 true true _ ?side1 ?side2 ?side3 ?side4 ?side5 ?side6 ?side7 ?side8 ?side9 ?side10 ?side11 A24.out).mono ?_); (case side1 => exact zy3); (case side2 => exact zy6); (case side3 => exact HC0_2.out); (case side4 => exact zy16); (case side5 => exact (Kd.R_reads' HO_575005.out).2.1); (case side6 => exact zy15); (case side7 => exact (Kd.S_reads' HO_575006.out).2.1); (case side8 => exact zy7); (case side9 => exact HC2.out); (case side10 => exact zy8); (case side11 => exact HC3.out); rintro e w' ⟨rfl, ⟨nd, rfl⟩⟩; refine ⟨_, rfl, ?_⟩))
         go_roundg k3
         case measure => have := HJ6.out; have := HK2.out; have := HK3.out; omega
         case rel => exact ⟨(wrap64 ((wrap64 (x12_3 + 1)) + 1)), (wrap64 (x46_3 + 1)), zy12, zy12, H', ⟨zy19⟩, ⟨zy14⟩, ⟨zy13⟩, ⟨zy2⟩, ⟨zy5⟩, ⟨zy3⟩, ⟨zy1⟩⟩
        replace c26 := Bool.eq_false_iff.mpr c26
        subst c26
        have H1 : (impl_CountJoins.l1 k3 l2 l3 (wrap64 (x12_3 + 1)) x41_2 (l2.length : Int) x41_2 (l3.length : Int) (wrap64 (x46_3 + 1)) a0_0 a0_1 l0_2 a1_0 a1_1 t568 t571) = some (r1, r2) := by rw [if_neg (show ¬ (false = true) by decide)] at H; exact H
        clear H
        have H := H1
        clear H1
        have H' := Aside0.mk H
        clear H
        obtain ⟨Ao29, co29, eo29⟩ := Kd.R_slice HO_575005.out
        subst eo29
        obtain ⟨Ao30, co30, eo30⟩ := Kd.S_slice HO_575006.out
        subst eo30
        go_wp2_with (first | ((with_reducible refine gate_callee (f := 53) rfl ?_); refine goesL_ (some 55) rfl rfl Try.func53 (by kernel_rfl) rfl #[.pointer (some ⟨gb574, 0, none⟩), .slice A2 l2.length c2, .slice A3 l3.length c3, .int .i64 x41_2, .int .i64 x46_3] rfl zy10 ?_; (with_reducible refine (impl_graph_joins.calls k3 gb574 a0_0 a0_1 A0_2 c0_2 l0_2 a1_0 a1_1 Ao29 co29 t568 Ao30 co30 t571 _ _ l2 _ _ l3 x41_2 x46_3 true false _ ?side1 ?side2 ?side3 ?side4 ?side5 ?side6 ?side7 ?side8 ?side9 ?side10 ?side11 A24.out).mono ?_); (case side1 => exact zy3); (case side2 => exact zy6); (case side3 => exact HC0_2.out); (case side4 => exact zy16); (case side5 => exact (Kd.R_reads' HO_575005.out).2.1); (case side6 => exact zy15); (case side7 => exact (Kd.S_reads' HO_575006.out).2.1); (case side8 => exact zy7); (case side9 => exact HC2.out); (case side10 => exact zy8); (case side11 => exact HC3.out); rintro e w' ⟨rfl, ⟨nd, rfl⟩⟩; refine ⟨_, rfl, ?_⟩))
        go_roundg k3
        case measure => have := HJ6.out; have := HK2.out; have := HK3.out; omega
        case rel => exact ⟨(wrap64 (x12_3 + 1)), (wrap64 (x46_3 + 1)), zy12, zy12, H', ⟨zy19⟩, ⟨zy14⟩, ⟨zy13⟩, ⟨zy2⟩, ⟨zy5⟩, ⟨zy3⟩, ⟨zy1⟩⟩
       replace c25 := Bool.eq_false_iff.mpr c25
       subst c25
       have H1 : (if t580 = true then (impl_CountJoins.l1 k3 l2 l3 (wrap64 (x12_3 + 1)) x41_2 (l2.length : Int) x41_2 (l3.length : Int) (wrap64 (x46_3 + 1)) a0_0 a0_1 l0_2 a1_0 a1_1 t568 t571) else (impl_CountJoins.l1 k3 l2 l3 x12_3 x41_2 (l2.length : Int) x41_2 (l3.length : Int) (wrap64 (x46_3 + 1)) a0_0 a0_1 l0_2 a1_0 a1_1 t568 t571)) = some (r1, r2) := by rw [if_neg (show ¬ (false = true) by decide)] at H; exact H
       clear H
       have H := H1
       clear H1
       by_cases c31 : t580 = true
       ·subst c31
        have H1 : (impl_CountJoins.l1 k3 l2 l3 (wrap64 (x12_3 + 1)) x41_2 (l2.length : Int) x41_2 (l3.length : Int) (wrap64 (x46_3 + 1)) a0_0 a0_1 l0_2 a1_0 a1_1 t568 t571) = some (r1, r2) := by rw [if_pos rfl] at H; exact H
        clear H
        have H := H1
        clear H1
        have H' := Aside0.mk H
        clear H
        obtain ⟨Ao32, co32, eo32⟩ := Kd.R_slice HO_575005.out
        subst eo32
        obtain ⟨Ao33, co33, eo33⟩ := Kd.S_slice HO_575006.out
        subst eo33
        go_wp2_with (first | ((with_reducible refine gate_callee (f := 53) rfl ?_); refine goesL_ (some 55) rfl rfl Try.func53 (by kernel_rfl) rfl #[.pointer (some ⟨gb574, 0, none⟩), .slice A2 l2.length c2, .slice A3 l3.length c3, .int .i64 x41_2, .int .i64 x46_3] rfl zy10 ?_; (with_reducible refine (impl_graph_joins.calls k3 gb574 a0_0 a0_1 A0_2 c0_2 l0_2 a1_0 a1_1 Ao32 co32 t568 Ao33 co33 t571 _ _ l2 _ _ l3 x41_2 x46_3 false true _ ?side1 ?side2 ?side3 ?side4 ?side5 ?side6 ?side7 ?side8 ?side9 ?side10 ?side11 A24.out).mono ?_); (case side1 => exact zy3); (case side2 => exact zy6); (case side3 => exact HC0_2.out); (case side4 => exact zy16); (case side5 => exact (Kd.R_reads' HO_575005.out).2.1); (case side6 => exact zy15); (case side7 => exact (Kd.S_reads' HO_575006.out).2.1); (case side8 => exact zy7); (case side9 => exact HC2.out); (case side10 => exact zy8); (case side11 => exact HC3.out); rintro e w' ⟨rfl, ⟨nd, rfl⟩⟩; refine ⟨_, rfl, ?_⟩))
        go_roundg k3
        case measure => have := HJ6.out; have := HK2.out; have := HK3.out; omega
        case rel => exact ⟨(wrap64 (x12_3 + 1)), (wrap64 (x46_3 + 1)), zy12, zy12, H', ⟨zy19⟩, ⟨zy14⟩, ⟨zy13⟩, ⟨zy2⟩, ⟨zy5⟩, ⟨zy3⟩, ⟨zy1⟩⟩
       replace c31 := Bool.eq_false_iff.mpr c31
       subst c31
       have H1 : (impl_CountJoins.l1 k3 l2 l3 x12_3 x41_2 (l2.length : Int) x41_2 (l3.length : Int) (wrap64 (x46_3 + 1)) a0_0 a0_1 l0_2 a1_0 a1_1 t568 t571) = some (r1, r2) := by rw [if_neg (show ¬ (false = true) by decide)] at H; exact H
       clear H
       have H := H1
       clear H1
       have H' := Aside0.mk H
       clear H
       obtain ⟨Ao34, co34, eo34⟩ := Kd.R_slice HO_575005.out
       subst eo34
       obtain ⟨Ao35, co35, eo35⟩ := Kd.S_slice HO_575006.out
       subst eo35
       go_wp2_with (first | ((with_reducible refine gate_callee (f := 53) rfl ?_); refine goesL_ (some 55) rfl rfl Try.func53 (by kernel_rfl) rfl #[.pointer (some ⟨gb574, 0, none⟩), .slice A2 l2.length c2, .slice A3 l3.length c3, .int .i64 x41_2, .int .i64 x46_3] rfl zy10 ?_; (with_reducible refine (impl_graph_joins.calls k3 gb574 a0_0 a0_1 A0_2 c0_2 l0_2 a1_0 a1_1 Ao34 co34 t568 Ao35 co35 t571 _ _ l2 _ _ l3 x41_2 x46_3 false false _ ?side1 ?side2 ?side3 ?side4 ?side5 ?side6 ?side7 ?side8 ?side9 ?side10 ?side11 A24.out).mono ?_); (case side1 => exact zy3); (case side2 => exact zy6); (case side3 => exact HC0_2.out); (case side4 => exact zy16); (case side5 => exact (Kd.R_reads' HO_575005.out).2.1); (case side6 => exact zy15); (case side7 => exact (Kd.S_reads' HO_575006.out).2.1); (case side8 => exact zy7); (case side9 => exact HC2.out); (case side10 => exact zy8); (case side11 => exact HC3.out); rintro e w' ⟨rfl, ⟨nd, rfl⟩⟩; refine ⟨_, rfl, ?_⟩))
       go_roundg k3
       case measure => have := HJ6.out; have := HK2.out; have := HK3.out; omega
       case rel => exact ⟨(x12_3), (wrap64 (x46_3 + 1)), zy12, zy12, H', ⟨zy19⟩, ⟨zy14⟩, ⟨zy13⟩, ⟨zy2⟩, ⟨zy5⟩, ⟨zy3⟩, ⟨zy1⟩⟩

end Go.Proofs.Ytbecdckdbeoomaa.Q

/- Written by a program of this session: functions of the translation as plain Lean functions, each with a proof that the call does what the plain function says; the conditions stand in each theorem. -/
import Derived.Test.YthoklbeenjppbaaQ0
import Derived.Test.YthoklbeenjppbaaQ4
import Derived.Test.YthoklbeenjppbaaQ22
import Derived.Test.YthoklbeenjppbaaQ24
import Derived.Test.YthoklbeenjppbaaQ25
namespace Go.Proofs.Ythoklbeenjppbaa.Q
open Go.RowKit Go.Proofs.YthoklbeenjppbaaW.PrintWords Go.Proofs.YthoklbeenjppbaaW.PrintLast Go.Proofs.YthoklbeenjppbaaW.PrintMore
attribute [local go_sem] max2_int min2_int max_two min_two max_three min_three max_four min_four   -- for this text's walks alone
set_option linter.unusedVariables false
set_option linter.unusedSimpArgs false

theorem zaa2 {p : Prop} (h : p := by repeat (first | (with_reducible first | exact HB.out | apply below_alloc | apply pw_below_drewN | apply below_drew1 | refine below_set ?_ GE562.out | refine below_set ?_ GE563.out | refine below_set ?_ GE570.out) | exact HB.out)) : p := h
theorem zaa3 {p : Prop} (h : p := by (with_reducible repeat (first | refine blk_drewN ?_ _ | refine blk_drew ?_ | refine blk_alloc ?_ _)); exact BK562.out) : p := h
theorem zaa4 {p : Prop} (h : p := by (with_reducible repeat (first | refine blk_drewN ?_ _ | refine blk_drew ?_ | refine blk_alloc ?_ _)); exact BK563.out) : p := h
theorem zaa5 {p : Prop} (h : p := by repeat (first | (with_reducible first | exact HB.out | apply below_alloc | apply pw_below_drewN | apply below_drew1 | refine below_set ?_ GE562.out | refine below_set ?_ GE563.out) | exact HB.out)) : p := h
theorem zaa6 {p : Prop} (h : p := by (with_reducible repeat (first | refine blk_drewN ?_ _ | refine blk_drew ?_ | refine blk_alloc ?_ _)); exact BK570.out) : p := h
theorem zaa7 {p : Prop} (h : p := by repeat (first | exact (Kd.C_below HR0_2.out HB.out) | (with_reducible refine Kd.C_alloc ?_ _) | (with_reducible refine Kd.C_drewN ?_ _) | (with_reducible refine Kd.C_drew ?_))) : p := h
theorem zaa8 {p : Prop} (h : p := by (try simp only [List.map_toArray, List.map_cons, List.map_nil]); first | done | rfl | (simp only [List.length_drop, List.length_take]; rfl)) : p := h
theorem zaa9 {p : Prop} (h : p := by (with_reducible repeat (first | apply Kd.S_alloc | apply Kd.S_drewN | apply Kd.S_drew)); exact HO_571006.out) : p := h
theorem zaa10 {p : Prop} (h : p := by (with_reducible repeat (first | apply Kd.R_alloc | apply Kd.R_drewN | apply Kd.R_drew)); exact HO_571005.out) : p := h
theorem zaa11 {p : Prop} (h : p := by repeat (first | (with_reducible first | exact HB.out | apply below_alloc | apply pw_below_drewN | apply below_drew1 | refine below_set ?_ GE562.out) | exact HB.out)) : p := h
theorem zaa12 {p : Prop} (h : p := by repeat (first | (with_reducible first | exact HB.out | apply below_alloc | apply pw_below_drewN | apply below_drew1) | exact HB.out)) : p := h
theorem zaa13 {p : Prop} (h : p := by first | (with_reducible assumption) | assumption) : p := h
theorem zaa14 {p : Prop} (h : p := by first | rfl | (simp; done) | (simp [*]; done)) : p := h
theorem zaa15 {p : Prop} (h : p := by (try simp only [List.map_toArray, List.map_cons, List.map_nil]); first | done | (simp only [hji22]; rfl) | rfl | (simp only [List.length_drop, List.length_take]; rfl)) : p := h
theorem zaa16 {p : Prop} (h : p := by (try simp only [List.map_toArray, List.map_cons, List.map_nil]); first | done | (simp only [hji18]; rfl) | rfl | (simp only [List.length_drop, List.length_take]; rfl)) : p := h
theorem zaa17 {p : Prop} (h : p := by (with_reducible repeat (first | apply Kd.S_alloc | apply Kd.S_drewN | apply Kd.S_drew)); exact HO569.out) : p := h
theorem zaa18 {p : Prop} (h : p := by (with_reducible repeat (first | apply Kd.R_alloc | apply Kd.R_drewN | apply Kd.R_drew)); exact HO566.out) : p := h
theorem zaa19 {p : Prop} (h : p := by first | rfl | (simp [errW_none, errW_some] <;> rfl) | (simp [*, errW_none, errW_some] <;> rfl)) : p := h
theorem zaa20 {p : Prop} (h : p := by repeat (first | exact (Kd.S_reads' HO569.out).2.2 | (with_reducible refine Kd.C_alloc ?_ _) | (with_reducible refine Kd.C_drewN ?_ _) | (with_reducible refine Kd.C_drew ?_))) : p := h
theorem zaa21 {p : Prop} (h : p := by repeat (first | exact (Kd.R_reads' HO566.out).2.2 | (with_reducible refine Kd.C_alloc ?_ _) | (with_reducible refine Kd.C_drewN ?_ _) | (with_reducible refine Kd.C_drew ?_))) : p := h
theorem zaa22 {p : Prop} (h : p := by repeat (first | exact (Kd.C_below HR2.out HB.out) | (with_reducible refine Kd.C_alloc ?_ _) | (with_reducible refine Kd.C_drewN ?_ _) | (with_reducible refine Kd.C_drew ?_))) : p := h
theorem zaa23 {p : Prop} (h : p := by rw [hg]; exact Nat.ne_of_lt (blk_lt (g := gb562) (o := .cells #[.int .i64 a0_0, .int .i64 a0_1, .slice A0_2 l0_2.length c0_2] 30 (0, 0)) zaa3)) : p := h
theorem zaa24 {p : Prop} (h : p := by rw [hg]; exact Nat.ne_of_gt (blk_lt (g := gb562) (o := .cells #[.int .i64 a0_0, .int .i64 a0_1, .slice A0_2 l0_2.length c0_2] 30 (0, 0)) zaa3)) : p := h
theorem zaa25 {p : Prop} (h : p := by rw [hg]; exact (below_size zaa12)) : p := h
theorem zaa26 {p : Prop} (h : p := by rw [hg]; exact (below_size zaa11)) : p := h
/-! ### impl_TurnsOfPath: function 28 -/
def impl_TurnsOfPath.l0 : Nat → List Int → Int → Int → Int → Int → Int → Int → List Int → Option (Int × Int × Int × Bool)
 | 0, _, _, _, _, _, _, _, _ => none
 | k + 1, x2, x12, x13, x14, x15, x563000, x563001, x563002 => if x15 < (x2.length : Int) then (if 0 ≤ (wrap64 (x15 - 2)) then (if (wrap64 (x15 - 2)) < (x2.length : Int) then ((impl_Board_at.f x563000 x563001 x563002 (rd x2 (wrap64 (x15 - 2)))).bind fun bt575 => (if 0 ≤ (wrap64 (x15 - 1)) then (if (wrap64 (x15 - 1)) < (x2.length : Int) then ((impl_Board_at.f x563000 x563001 x563002 (rd x2 (wrap64 (x15 - 1)))).bind fun bt578 => (if 0 ≤ x15 then ((impl_Board_at.f x563000 x563001 x563002 (rd x2 x15)).bind fun bt581 => ((impl_turn.f bt575.1 bt575.2 bt578.1 bt578.2 bt581.1 bt581.2).bind fun t583 => ((impl_sign.f t583).bind fun t584 => (if t584 = 1 then (impl_TurnsOfPath.l0 k x2 (wrap64 (x12 + 1)) x13 x14 (wrap64 (x15 + 1)) x563000 x563001 x563002) else (if t584 = 0 then (impl_TurnsOfPath.l0 k x2 x12 (wrap64 (x13 + 1)) x14 (wrap64 (x15 + 1)) x563000 x563001 x563002) else (impl_TurnsOfPath.l0 k x2 x12 x13 (wrap64 (x14 + 1)) (wrap64 (x15 + 1)) x563000 x563001 x563002)))))) else (none))) else (none)) else (none))) else (none)) else (none)) else (some (x12, x13, x14, true))
def impl_TurnsOfPath.f (k : Nat) (a0_0 : Int) (a0_1 : Int) (l0_2 : List Int) (a1_0 : Int) (a1_1 : Int) (l2 : List Int) : Option (Int × Int × Int × Bool) := (impl_graphOf.f k a0_0 a0_1 l0_2 a1_0 a1_1).bind fun bt564 => (if bt564.2.2 = true then ((impl_graph_isPath.f k a0_0 a0_1 l0_2 a1_0 a1_1 bt564.1 bt564.2.1 l2).bind fun t573 => (if t573 = true then (impl_TurnsOfPath.l0 k l2 0 0 0 2 a0_0 a0_1 l0_2) else (some (0, 0, 0, false)))) else (some (0, 0, 0, false)))
def impl_TurnsOfPath.T8 : Bool × List (List Nat × List Nat) := (true, [([], []), ([], []), ([], []), ([2], [2]), ([1, 3], [1, 3]), ([4], [4]), ([0, 5], [0, 5]), ([], []), ([], []), ([], []), ([9], [9]), ([8, 10], [8, 10]), ([11], [11]), ([7, 12, 6], [7, 12]), ([], []), ([], []), ([], []), ([15, 16], [15, 16]), ([17], [17]), ([14, 18, 13], [14, 18]), ([6, 13, 19, 19], [6, 13, 19]), ([20, 20], [20])])
def impl_TurnsOfPath.B8 : List Nat := [0, 0, 0, 4, 14, 30, 63, 0, 0, 0, 512, 1792, 3840, 8191, 0, 0, 0, 98304, 229376, 524287, 1048575, 2097151]
theorem impl_TurnsOfPath.tab8 : rtab .any (opsOf Try.f28 8) = impl_TurnsOfPath.T8 := by kernel_rfl
theorem impl_TurnsOfPath.bits8 : waitsOk impl_TurnsOfPath.T8.2 impl_TurnsOfPath.B8 = true := by kernel_rfl
set_option maxHeartbeats 8000000 in
set_option maxRecDepth 100000 in
theorem impl_TurnsOfPath.calls (k : Nat) (a0_0 : Int) (a0_1 : Int) (A0_2 : Option Addr) (c0_2 : Nat) (l0_2 : List Int) (a1_0 : Int) (a1_1 : Int) (A2 : Option Addr) (c2 : Nat) (l2 : List Int) (r1 : Int) (r2 : Int) (r3 : Int) (r4 : Bool) (w : World) (hr0_2 : Kd.C (Kd.int .i64) w A0_2 l0_2.length l0_2) (hc0_2 : l0_2.length ≤ c0_2) (hr2 : Kd.C (Kd.int .i64) w A2 l2.length l2) (hc2 : l2.length ≤ c2) (h : impl_TurnsOfPath.f k a0_0 a0_1 l0_2 a1_0 a1_1 l2 = some (r1, r2, r3, r4)) :
  Calls Try.prog 28 #[.agg #[.int .i64 a0_0, .int .i64 a0_1, .slice A0_2 l0_2.length c0_2], .agg #[.int .i64 a1_0, .int .i64 a1_1], .slice A2 l2.length c2] w fun e w' => e = .returned (.tuple #[.int .i64 r1, .int .i64 r2, .int .i64 r3, .bool r4]) ∧ Below w.heap.size w w' := by
 have hu30 := Try.underlying30
 have hu32 := Try.underlying32
 have HR0_2 := Aside0.mk hr0_2
 have HC0_2 := Aside0.mk hc0_2
 clear hr0_2 hc0_2
 have HR2 := Aside0.mk hr2
 have HC2 := Aside0.mk hc2
 clear hr2 hc2
 have HB := Aside0.mk (Below.refl w.heap.size w)
 have H : ((impl_graphOf.f k a0_0 a0_1 l0_2 a1_0 a1_1).bind fun bt564 => (if bt564.2.2 = true then ((impl_graph_isPath.f k a0_0 a0_1 l0_2 a1_0 a1_1 bt564.1 bt564.2.1 l2).bind fun t573 => (if t573 = true then (impl_TurnsOfPath.l0 k l2 0 0 0 2 a0_0 a0_1 l0_2) else (some (0, 0, 0, false)))) else (some (0, 0, 0, false)))) = some (r1, r2, r3, r4) := h
 clear h
 replace H := Option.bind_eq_some_iff.mp H
 obtain ⟨⟨t564, t567, t572⟩, A40, H⟩ := H
 replace H : (if t572 = true then ((impl_graph_isPath.f k a0_0 a0_1 l0_2 a1_0 a1_1 t564 t567 l2).bind fun t573 => (if t573 = true then (impl_TurnsOfPath.l0 k l2 0 0 0 2 a0_0 a0_1 l0_2) else (some (0, 0, 0, false)))) else (some (0, 0, 0, false))) = some (r1, r2, r3, r4) := H
 have A4 := Aside0.mk A40
 clear A40
 by_cases c5 : t572 = true
 rotate_left
 ·replace c5 := Bool.eq_false_iff.mpr c5
  subst c5
  have H1 : (some (0, 0, 0, false)) = some (r1, r2, r3, r4) := by rw [if_neg (show ¬ (false = true) by decide)] at H; exact H
  clear H
  have H := H1
  clear H1
  simp only [Option.some.injEq, Prod.mk.injEq] at H
  obtain ⟨rfl, rfl, rfl, rfl⟩ := H
  go_enter Try.func28, Try.ntmps28
  go_wp2_with (first | ((with_reducible refine gate_dst (N := 3) rfl ?_); refine box_event ?hg (N := 3) ?hd (cs := #[.int .i64 a0_0, .int .i64 a0_1, .slice A0_2 l0_2.length c0_2]) (t := 30) ?hr ?_; (case hd => rfl); (case hg => rfl); (case hr => first | (go_simp; done) | (go_simp; rfl)); intro gb562 hg w56 hbox hb; have n0_ := Aside0.mk (below_step zaa12 hb); have n1_ := Aside0.mk (hbox); have n2_ := Aside0.mk ((zaa25 : w.heap.size ≤ gb562)); have n3_ := Aside0.mk ((zaa25 : w.heap.size ≤ gb562)); clear HB; have HB := n0_; have BK562 := n1_; have GW562 := n2_; have GE562 := n3_; clear n0_ n1_ n2_ n3_; clear hb hbox hg) | ((with_reducible refine gate_dst (N := 4) rfl ?_); refine box_event ?hg (N := 4) ?hd (cs := #[.int .i64 a1_0, .int .i64 a1_1]) (t := 32) ?hr ?_; (case hd => rfl); (case hg => rfl); (case hr => first | (go_simp; done) | (go_simp; rfl)); intro gb563 hg w57 hbox hb; have n0_ := Aside0.mk (blk_below (g := gb562) (o := .cells #[.int .i64 a0_0, .int .i64 a0_1, .slice A0_2 l0_2.length c0_2] 30 (0, 0)) zaa3 hb); have n1_ := Aside0.mk (below_step zaa11 hb); have n2_ := Aside0.mk (hbox); have n3_ := Aside0.mk ((zaa26 : w.heap.size ≤ gb563)); have n4_ := Aside0.mk ((zaa26 : w.heap.size ≤ gb563)); have n5_ := Aside0.mk ((zaa23 : gb562 ≠ gb563)); have n6_ := Aside0.mk ((zaa24 : gb563 ≠ gb562)); clear BK562; clear HB; have BK562 := n0_; have HB := n1_; have BK563 := n2_; have GW563 := n3_; have GE563 := n4_; have NB562_563 := n5_; have NB563_562 := n6_; clear n0_ n1_ n2_ n3_ n4_ n5_ n6_; clear hb hbox hg; have hnb58 := NB562_563.out; have hnc58 := NB563_562.out; have hcz59_0 : w57.cell? ⟨gb562, 0, none⟩ = some (.int .i64 a0_0) := (blk_cell BK562.out 0).trans rfl; have hcz59_1 : w57.cell? ⟨gb562, 1, none⟩ = some (.int .i64 a0_1) := (blk_cell BK562.out 1).trans rfl; have hcz59_2 : w57.cell? ⟨gb562, 2, none⟩ = some (.slice A0_2 l0_2.length c0_2) := (blk_cell BK562.out 2).trans rfl; have hfz59_0 := blk_frozen BK562.out 0; have hfz59_1 := blk_frozen BK562.out 1; have hfz59_2 := blk_frozen BK562.out 2; have hcz60_0 : w57.cell? ⟨gb563, 0, none⟩ = some (.int .i64 a1_0) := (blk_cell BK563.out 0).trans rfl; have hcz60_1 : w57.cell? ⟨gb563, 1, none⟩ = some (.int .i64 a1_1) := (blk_cell BK563.out 1).trans rfl; have hfz60_0 := blk_frozen BK563.out 0; have hfz60_1 := blk_frozen BK563.out 1) | ((with_reducible refine gate_callee (f := 60) rfl ?_); refine goesL_ (some 19) rfl rfl Try.func60 (by kernel_rfl) rfl #[.agg #[.int .i64 a0_0, .int .i64 a0_1, .slice A0_2 l0_2.length c0_2], .agg #[.int .i64 a1_0, .int .i64 a1_1]] rfl zaa8 ?_; (with_reducible refine (impl_graphOf.calls k a0_0 a0_1 _ _ l0_2 a1_0 a1_1 t564 t567 false _ ?side1 ?side2 A4.out).mono ?_); (case side1 => exact zaa7); (case side2 => exact HC0_2.out); rintro e w61 ⟨v565, v568, pv571, rfl, hgp, ho0, ho1, hb⟩; refine ⟨_, rfl, ?_⟩; obtain rfl := hgp.2 rfl; have n0_ := Aside0.mk (Kd.R_lower ho0 (below_size zaa5)); have n1_ := Aside0.mk (Kd.S_lower ho1 (below_size zaa5)); have n2_ := Aside0.mk (blk_below (g := gb562) (o := .cells #[.int .i64 a0_0, .int .i64 a0_1, .slice A0_2 l0_2.length c0_2] 30 (0, 0)) zaa3 hb); have n3_ := Aside0.mk (blk_below (g := gb563) (o := .cells #[.int .i64 a1_0, .int .i64 a1_1] 32 (0, 0)) zaa4 hb); have n4_ := Aside0.mk (below_step zaa5 hb); clear BK562; clear BK563; clear HB; have HO566 := n0_; have HO569 := n1_; have BK562 := n2_; have BK563 := n3_; have HB := n4_; clear n0_ n1_ n2_ n3_ n4_; (try clear hb); (try clear hb2); (try clear hk); (try clear hi); (try clear ho0); (try clear ho1); (try clear hgp); (try clear hbox); (try clear hge); (try clear hna_); (try clear hnb_)))
  refine bodyPost_ret (results_list (rs := [.tmp 6, .tmp 7, .tmp 8, .tmp 9]) rfl (by simp) (.tmp (.tmp (.tmp (.tmp .nil))))) rfl ?_
  exact ⟨zaa19, zaa5⟩
 subst c5
 have H1 : ((impl_graph_isPath.f k a0_0 a0_1 l0_2 a1_0 a1_1 t564 t567 l2).bind fun t573 => (if t573 = true then (impl_TurnsOfPath.l0 k l2 0 0 0 2 a0_0 a0_1 l0_2) else (some (0, 0, 0, false)))) = some (r1, r2, r3, r4) := by rw [if_pos rfl] at H; exact H
 clear H
 have H := H1
 clear H1
 replace H := Option.bind_eq_some_iff.mp H
 obtain ⟨t573, A60, H⟩ := H
 replace H : (if t573 = true then (impl_TurnsOfPath.l0 k l2 0 0 0 2 a0_0 a0_1 l0_2) else (some (0, 0, 0, false))) = some (r1, r2, r3, r4) := H
 have A6 := Aside0.mk A60
 clear A60
 by_cases c7 : t573 = true
 rotate_left
 ·replace c7 := Bool.eq_false_iff.mpr c7
  subst c7
  have H1 : (some (0, 0, 0, false)) = some (r1, r2, r3, r4) := by rw [if_neg (show ¬ (false = true) by decide)] at H; exact H
  clear H
  have H := H1
  clear H1
  simp only [Option.some.injEq, Prod.mk.injEq] at H
  obtain ⟨rfl, rfl, rfl, rfl⟩ := H
  go_enter Try.func28, Try.ntmps28
  go_wp2_with (first | ((with_reducible refine gate_dst (N := 3) rfl ?_); refine box_event ?hg (N := 3) ?hd (cs := #[.int .i64 a0_0, .int .i64 a0_1, .slice A0_2 l0_2.length c0_2]) (t := 30) ?hr ?_; (case hd => rfl); (case hg => rfl); (case hr => first | (go_simp; done) | (go_simp; rfl)); intro gb562 hg w47 hbox hb; have n0_ := Aside0.mk (below_step zaa12 hb); have n1_ := Aside0.mk (hbox); have n2_ := Aside0.mk ((zaa25 : w.heap.size ≤ gb562)); have n3_ := Aside0.mk ((zaa25 : w.heap.size ≤ gb562)); clear HB; have HB := n0_; have BK562 := n1_; have GW562 := n2_; have GE562 := n3_; clear n0_ n1_ n2_ n3_; clear hb hbox hg) | ((with_reducible refine gate_dst (N := 4) rfl ?_); refine box_event ?hg (N := 4) ?hd (cs := #[.int .i64 a1_0, .int .i64 a1_1]) (t := 32) ?hr ?_; (case hd => rfl); (case hg => rfl); (case hr => first | (go_simp; done) | (go_simp; rfl)); intro gb563 hg w48 hbox hb; have n0_ := Aside0.mk (blk_below (g := gb562) (o := .cells #[.int .i64 a0_0, .int .i64 a0_1, .slice A0_2 l0_2.length c0_2] 30 (0, 0)) zaa3 hb); have n1_ := Aside0.mk (below_step zaa11 hb); have n2_ := Aside0.mk (hbox); have n3_ := Aside0.mk ((zaa26 : w.heap.size ≤ gb563)); have n4_ := Aside0.mk ((zaa26 : w.heap.size ≤ gb563)); have n5_ := Aside0.mk ((zaa23 : gb562 ≠ gb563)); have n6_ := Aside0.mk ((zaa24 : gb563 ≠ gb562)); clear BK562; clear HB; have BK562 := n0_; have HB := n1_; have BK563 := n2_; have GW563 := n3_; have GE563 := n4_; have NB562_563 := n5_; have NB563_562 := n6_; clear n0_ n1_ n2_ n3_ n4_ n5_ n6_; clear hb hbox hg; have hnb49 := NB562_563.out; have hnc49 := NB563_562.out; have hcz50_0 : w48.cell? ⟨gb562, 0, none⟩ = some (.int .i64 a0_0) := (blk_cell BK562.out 0).trans rfl; have hcz50_1 : w48.cell? ⟨gb562, 1, none⟩ = some (.int .i64 a0_1) := (blk_cell BK562.out 1).trans rfl; have hcz50_2 : w48.cell? ⟨gb562, 2, none⟩ = some (.slice A0_2 l0_2.length c0_2) := (blk_cell BK562.out 2).trans rfl; have hfz50_0 := blk_frozen BK562.out 0; have hfz50_1 := blk_frozen BK562.out 1; have hfz50_2 := blk_frozen BK562.out 2; have hcz51_0 : w48.cell? ⟨gb563, 0, none⟩ = some (.int .i64 a1_0) := (blk_cell BK563.out 0).trans rfl; have hcz51_1 : w48.cell? ⟨gb563, 1, none⟩ = some (.int .i64 a1_1) := (blk_cell BK563.out 1).trans rfl; have hfz51_0 := blk_frozen BK563.out 0; have hfz51_1 := blk_frozen BK563.out 1) | ((with_reducible refine gate_callee (f := 60) rfl ?_); refine goesL_ (some 19) rfl rfl Try.func60 (by kernel_rfl) rfl #[.agg #[.int .i64 a0_0, .int .i64 a0_1, .slice A0_2 l0_2.length c0_2], .agg #[.int .i64 a1_0, .int .i64 a1_1]] rfl zaa8 ?_; (with_reducible refine (impl_graphOf.calls k a0_0 a0_1 _ _ l0_2 a1_0 a1_1 t564 t567 true _ ?side1 ?side2 A4.out).mono ?_); (case side1 => exact zaa7); (case side2 => exact HC0_2.out); rintro e w52 ⟨v565, v568, pv571, rfl, hgp, ho0, ho1, hb⟩; refine ⟨_, rfl, ?_⟩; obtain ⟨gb570, rfl, hbox, hge⟩ := hgp.1 rfl; have n0_ := Aside0.mk (Kd.R_lower ho0 (below_size zaa5)); have n1_ := Aside0.mk (Kd.S_lower ho1 (below_size zaa5)); have n2_ := Aside0.mk (blk_below (g := gb562) (o := .cells #[.int .i64 a0_0, .int .i64 a0_1, .slice A0_2 l0_2.length c0_2] 30 (0, 0)) zaa3 hb); have n3_ := Aside0.mk (blk_below (g := gb563) (o := .cells #[.int .i64 a1_0, .int .i64 a1_1] 32 (0, 0)) zaa4 hb); have n4_ := Aside0.mk (hbox); have n5_ := Aside0.mk ((Nat.le_trans (by exact (below_size zaa5)) hge : w.heap.size ≤ gb570)); have n6_ := Aside0.mk ((Nat.le_trans (by exact (below_size zaa5)) hge : w.heap.size ≤ gb570)); have n7_ := Aside0.mk ((Nat.ne_of_lt (Nat.lt_of_lt_of_le (blk_lt (g := gb562) (o := .cells #[.int .i64 a0_0, .int .i64 a0_1, .slice A0_2 l0_2.length c0_2] 30 (0, 0)) zaa3) hge) : gb562 ≠ gb570)); have n8_ := Aside0.mk ((Nat.ne_of_gt (Nat.lt_of_lt_of_le (blk_lt (g := gb562) (o := .cells #[.int .i64 a0_0, .int .i64 a0_1, .slice A0_2 l0_2.length c0_2] 30 (0, 0)) zaa3) hge) : gb570 ≠ gb562)); have n9_ := Aside0.mk ((Nat.ne_of_lt (Nat.lt_of_lt_of_le (blk_lt (g := gb563) (o := .cells #[.int .i64 a1_0, .int .i64 a1_1] 32 (0, 0)) zaa4) hge) : gb563 ≠ gb570)); have n10_ := Aside0.mk ((Nat.ne_of_gt (Nat.lt_of_lt_of_le (blk_lt (g := gb563) (o := .cells #[.int .i64 a1_0, .int .i64 a1_1] 32 (0, 0)) zaa4) hge) : gb570 ≠ gb563)); have n11_ := Aside0.mk (below_step zaa5 hb); clear BK562; clear BK563; clear HB; have HO566 := n0_; have HO569 := n1_; have BK562 := n2_; have BK563 := n3_; have BK570 := n4_; have GW570 := n5_; have GE570 := n6_; have NB562_570 := n7_; have NB570_562 := n8_; have NB563_570 := n9_; have NB570_563 := n10_; have HB := n11_; clear n0_ n1_ n2_ n3_ n4_ n5_ n6_ n7_ n8_ n9_ n10_ n11_; (try clear hb); (try clear hb2); (try clear hk); (try clear hi); (try clear ho0); (try clear ho1); (try clear hgp); (try clear hbox); (try clear hge); (try clear hna_); (try clear hnb_); obtain ⟨Ao53, co53, eo53⟩ := Kd.R_slice HO566.out; subst eo53; obtain ⟨Ao54, co54, eo54⟩ := Kd.S_slice HO569.out; subst eo54) | (go_at_call 65; (with_reducible refine (impl_graph_isPath.calls k gb570 a0_0 a0_1 A0_2 c0_2 l0_2 a1_0 a1_1 Ao53 co53 t564 Ao54 co54 t567 _ _ l2 false _ ?side1 ?side2 ?side3 ?side4 ?side5 ?side6 ?side7 ?side8 ?side9 A6.out).mono ?_); (case side1 => exact zaa6); (case side2 => exact zaa7); (case side3 => exact HC0_2.out); (case side4 => exact zaa21); (case side5 => exact (Kd.R_reads' HO566.out).2.1); (case side6 => exact zaa20); (case side7 => exact (Kd.S_reads' HO569.out).2.1); (case side8 => exact zaa22); (case side9 => exact HC2.out); rintro e w55 ⟨rfl, hb⟩; have n0_ := Aside0.mk (Kd.R_below zaa18 hb); have n1_ := Aside0.mk (Kd.S_below zaa17 hb); have n2_ := Aside0.mk (blk_below (g := gb562) (o := .cells #[.int .i64 a0_0, .int .i64 a0_1, .slice A0_2 l0_2.length c0_2] 30 (0, 0)) zaa3 hb); have n3_ := Aside0.mk (blk_below (g := gb563) (o := .cells #[.int .i64 a1_0, .int .i64 a1_1] 32 (0, 0)) zaa4 hb); have n4_ := Aside0.mk (blk_below (g := gb570) (o := .cells #[.int .i64 a0_0, .int .i64 a0_1, .slice A0_2 l0_2.length c0_2, .int .i64 a1_0, .int .i64 a1_1, .slice Ao53 t564.length co53, .slice Ao54 t567.length co54] 60 (0, 0)) zaa6 hb); have n5_ := Aside0.mk (below_step zaa2 hb); clear HO566; clear HO569; clear BK562; clear BK563; clear BK570; clear HB; have HO566 := n0_; have HO569 := n1_; have BK562 := n2_; have BK563 := n3_; have BK570 := n4_; have HB := n5_; clear n0_ n1_ n2_ n3_ n4_ n5_; (try clear hb); (try clear hb2); (try clear hk); (try clear hi); (try clear hna_); (try clear hnb_)))
  refine bodyPost_ret (results_list (rs := [.tmp 6, .tmp 7, .tmp 8, .tmp 9]) rfl (by simp) (.tmp (.tmp (.tmp (.tmp .nil))))) rfl ?_
  exact ⟨zaa19, zaa2⟩
 subst c7
 have H1 : (impl_TurnsOfPath.l0 k l2 0 0 0 2 a0_0 a0_1 l0_2) = some (r1, r2, r3, r4) := by rw [if_pos rfl] at H; exact H
 clear H
 have H := H1
 clear H1
 have H' := Aside0.mk H
 clear H
 go_enter Try.func28, Try.ntmps28
 go_wp2_with (first | ((with_reducible refine gate_dst (N := 3) rfl ?_); refine box_event ?hg (N := 3) ?hd (cs := #[.int .i64 a0_0, .int .i64 a0_1, .slice A0_2 l0_2.length c0_2]) (t := 30) ?hr ?_; (case hd => rfl); (case hg => rfl); (case hr => first | (go_simp; done) | (go_simp; rfl)); intro gb562 hg w8 hbox hb; have n0_ := Aside0.mk (below_step zaa12 hb); have n1_ := Aside0.mk (hbox); have n2_ := Aside0.mk ((zaa25 : w.heap.size ≤ gb562)); have n3_ := Aside0.mk ((zaa25 : w.heap.size ≤ gb562)); clear HB; have HB := n0_; have BK562 := n1_; have GW562 := n2_; have GE562 := n3_; clear n0_ n1_ n2_ n3_; clear hb hbox hg) | ((with_reducible refine gate_dst (N := 4) rfl ?_); refine box_event ?hg (N := 4) ?hd (cs := #[.int .i64 a1_0, .int .i64 a1_1]) (t := 32) ?hr ?_; (case hd => rfl); (case hg => rfl); (case hr => first | (go_simp; done) | (go_simp; rfl)); intro gb563 hg w9 hbox hb; have n0_ := Aside0.mk (blk_below (g := gb562) (o := .cells #[.int .i64 a0_0, .int .i64 a0_1, .slice A0_2 l0_2.length c0_2] 30 (0, 0)) zaa3 hb); have n1_ := Aside0.mk (below_step zaa11 hb); have n2_ := Aside0.mk (hbox); have n3_ := Aside0.mk ((zaa26 : w.heap.size ≤ gb563)); have n4_ := Aside0.mk ((zaa26 : w.heap.size ≤ gb563)); have n5_ := Aside0.mk ((zaa23 : gb562 ≠ gb563)); have n6_ := Aside0.mk ((zaa24 : gb563 ≠ gb562)); clear BK562; clear HB; have BK562 := n0_; have HB := n1_; have BK563 := n2_; have GW563 := n3_; have GE563 := n4_; have NB562_563 := n5_; have NB563_562 := n6_; clear n0_ n1_ n2_ n3_ n4_ n5_ n6_; clear hb hbox hg; have hnb10 := NB562_563.out; have hnc10 := NB563_562.out; have hcz11_0 : w9.cell? ⟨gb562, 0, none⟩ = some (.int .i64 a0_0) := (blk_cell BK562.out 0).trans rfl; have hcz11_1 : w9.cell? ⟨gb562, 1, none⟩ = some (.int .i64 a0_1) := (blk_cell BK562.out 1).trans rfl; have hcz11_2 : w9.cell? ⟨gb562, 2, none⟩ = some (.slice A0_2 l0_2.length c0_2) := (blk_cell BK562.out 2).trans rfl; have hfz11_0 := blk_frozen BK562.out 0; have hfz11_1 := blk_frozen BK562.out 1; have hfz11_2 := blk_frozen BK562.out 2; have hcz12_0 : w9.cell? ⟨gb563, 0, none⟩ = some (.int .i64 a1_0) := (blk_cell BK563.out 0).trans rfl; have hcz12_1 : w9.cell? ⟨gb563, 1, none⟩ = some (.int .i64 a1_1) := (blk_cell BK563.out 1).trans rfl; have hfz12_0 := blk_frozen BK563.out 0; have hfz12_1 := blk_frozen BK563.out 1) | ((with_reducible refine gate_callee (f := 60) rfl ?_); refine goesL_ (some 19) rfl rfl Try.func60 (by kernel_rfl) rfl #[.agg #[.int .i64 a0_0, .int .i64 a0_1, .slice A0_2 l0_2.length c0_2], .agg #[.int .i64 a1_0, .int .i64 a1_1]] rfl zaa8 ?_; (with_reducible refine (impl_graphOf.calls k a0_0 a0_1 _ _ l0_2 a1_0 a1_1 t564 t567 true _ ?side1 ?side2 A4.out).mono ?_); (case side1 => exact zaa7); (case side2 => exact HC0_2.out); rintro e w13 ⟨v565, v568, pv571, rfl, hgp, ho0, ho1, hb⟩; refine ⟨_, rfl, ?_⟩; obtain ⟨gb570, rfl, hbox, hge⟩ := hgp.1 rfl; have n0_ := Aside0.mk (Kd.R_lower ho0 (below_size zaa5)); have n1_ := Aside0.mk (Kd.S_lower ho1 (below_size zaa5)); have n2_ := Aside0.mk (blk_below (g := gb562) (o := .cells #[.int .i64 a0_0, .int .i64 a0_1, .slice A0_2 l0_2.length c0_2] 30 (0, 0)) zaa3 hb); have n3_ := Aside0.mk (blk_below (g := gb563) (o := .cells #[.int .i64 a1_0, .int .i64 a1_1] 32 (0, 0)) zaa4 hb); have n4_ := Aside0.mk (hbox); have n5_ := Aside0.mk ((Nat.le_trans (by exact (below_size zaa5)) hge : w.heap.size ≤ gb570)); have n6_ := Aside0.mk ((Nat.le_trans (by exact (below_size zaa5)) hge : w.heap.size ≤ gb570)); have n7_ := Aside0.mk ((Nat.ne_of_lt (Nat.lt_of_lt_of_le (blk_lt (g := gb562) (o := .cells #[.int .i64 a0_0, .int .i64 a0_1, .slice A0_2 l0_2.length c0_2] 30 (0, 0)) zaa3) hge) : gb562 ≠ gb570)); have n8_ := Aside0.mk ((Nat.ne_of_gt (Nat.lt_of_lt_of_le (blk_lt (g := gb562) (o := .cells #[.int .i64 a0_0, .int .i64 a0_1, .slice A0_2 l0_2.length c0_2] 30 (0, 0)) zaa3) hge) : gb570 ≠ gb562)); have n9_ := Aside0.mk ((Nat.ne_of_lt (Nat.lt_of_lt_of_le (blk_lt (g := gb563) (o := .cells #[.int .i64 a1_0, .int .i64 a1_1] 32 (0, 0)) zaa4) hge) : gb563 ≠ gb570)); have n10_ := Aside0.mk ((Nat.ne_of_gt (Nat.lt_of_lt_of_le (blk_lt (g := gb563) (o := .cells #[.int .i64 a1_0, .int .i64 a1_1] 32 (0, 0)) zaa4) hge) : gb570 ≠ gb563)); have n11_ := Aside0.mk (below_step zaa5 hb); clear BK562; clear BK563; clear HB; have HO566 := n0_; have HO569 := n1_; have BK562 := n2_; have BK563 := n3_; have BK570 := n4_; have GW570 := n5_; have GE570 := n6_; have NB562_570 := n7_; have NB570_562 := n8_; have NB563_570 := n9_; have NB570_563 := n10_; have HB := n11_; clear n0_ n1_ n2_ n3_ n4_ n5_ n6_ n7_ n8_ n9_ n10_ n11_; (try clear hb); (try clear hb2); (try clear hk); (try clear hi); (try clear ho0); (try clear ho1); (try clear hgp); (try clear hbox); (try clear hge); (try clear hna_); (try clear hnb_); obtain ⟨Ao14, co14, eo14⟩ := Kd.R_slice HO566.out; subst eo14; obtain ⟨Ao15, co15, eo15⟩ := Kd.S_slice HO569.out; subst eo15) | (go_at_call 65; (with_reducible refine (impl_graph_isPath.calls k gb570 a0_0 a0_1 A0_2 c0_2 l0_2 a1_0 a1_1 Ao14 co14 t564 Ao15 co15 t567 _ _ l2 true _ ?side1 ?side2 ?side3 ?side4 ?side5 ?side6 ?side7 ?side8 ?side9 A6.out).mono ?_); (case side1 => exact zaa6); (case side2 => exact zaa7); (case side3 => exact HC0_2.out); (case side4 => exact zaa21); (case side5 => exact (Kd.R_reads' HO566.out).2.1); (case side6 => exact zaa20); (case side7 => exact (Kd.S_reads' HO569.out).2.1); (case side8 => exact zaa22); (case side9 => exact HC2.out); rintro e w16 ⟨rfl, hb⟩; have n0_ := Aside0.mk (Kd.R_below zaa18 hb); have n1_ := Aside0.mk (Kd.S_below zaa17 hb); have n2_ := Aside0.mk (blk_below (g := gb562) (o := .cells #[.int .i64 a0_0, .int .i64 a0_1, .slice A0_2 l0_2.length c0_2] 30 (0, 0)) zaa3 hb); have n3_ := Aside0.mk (blk_below (g := gb563) (o := .cells #[.int .i64 a1_0, .int .i64 a1_1] 32 (0, 0)) zaa4 hb); have n4_ := Aside0.mk (blk_below (g := gb570) (o := .cells #[.int .i64 a0_0, .int .i64 a0_1, .slice A0_2 l0_2.length c0_2, .int .i64 a1_0, .int .i64 a1_1, .slice Ao14 t564.length co14, .slice Ao15 t567.length co15] 60 (0, 0)) zaa6 hb); have n5_ := Aside0.mk (below_step zaa2 hb); clear HO566; clear HO569; clear BK562; clear BK563; clear BK570; clear HB; have HO566 := n0_; have HO569 := n1_; have BK562 := n2_; have BK563 := n3_; have BK570 := n4_; have HB := n5_; clear n0_ n1_ n2_ n3_ n4_ n5_; (try clear hb); (try clear hb2); (try clear hk); (try clear hi); (try clear hna_); (try clear hnb_)))
 go_loopg [12, 13, 14, 15] k (fun kq v12 v13 v14 v15 w' => ∃ (x12_1 : Int) (x13_1 : Int) (x14_1 : Int) (x15_1 : Int), v12 = .int .i64 x12_1 ∧ v13 = .int .i64 x13_1 ∧ v14 = .int .i64 x14_1 ∧ v15 = .int .i64 x15_1 ∧ Aside0 (impl_TurnsOfPath.l0 kq l2 x12_1 x13_1 x14_1 x15_1 a0_0 a0_1 l0_2 = some (r1, r2, r3, r4)) ∧ Aside0 (kq ≤ k) ∧ Aside0 (Kd.R (Kd.int .i64) 3 w' w.heap.size (fun _ => True) (.slice Ao14 t564.length co14) t564) ∧ Aside0 (Kd.S (Kd.slice 3 (Kd.int .i64)) 22 w' w.heap.size (fun k_ => some k_ ≠ ((.slice Ao14 t564.length co14) : Value).ownBlock) (.slice Ao15 t567.length co15) t567) ∧ Aside0 (w'.heap[gb562]? = some (.cells #[.int .i64 a0_0, .int .i64 a0_1, (.slice A0_2 l0_2.length c0_2)] 30 (0, 0))) ∧ Aside0 (w'.heap[gb563]? = some (.cells #[.int .i64 a1_0, .int .i64 a1_1] 32 (0, 0))) ∧ Aside0 (w'.heap[gb570]? = some (.cells #[.int .i64 a0_0, .int .i64 a0_1, (.slice A0_2 l0_2.length c0_2), .int .i64 a1_0, .int .i64 a1_1, (.slice Ao14 t564.length co14), (.slice Ao15 t567.length co15)] 60 (0, 0))) ∧ Aside0 (Below w.heap.size w w'))
 case atStart => exact ⟨(0), (0), (0), (2), zaa14, zaa14, zaa14, zaa14, H', ⟨Nat.le_refl _⟩, ⟨zaa18⟩, ⟨zaa17⟩, ⟨zaa3⟩, ⟨zaa4⟩, ⟨zaa6⟩, ⟨zaa2⟩⟩
 case round =>
  clear H'
  try clear c1; try clear c2; try clear p2; try clear c5; try clear c6; try clear c7; try clear c10; try clear hcz11_0; try clear hcz11_1; try clear hcz11_2; try clear hcz12_0; try clear hcz12_1; try clear hfz11_0; try clear hfz11_1; try clear hfz11_2; try clear hfz12_0; try clear hfz12_1
  obtain ⟨x12_1, x13_1, x14_1, x15_1, rfl, rfl, rfl, rfl, HA, HK1, HO_571005, HO_571006, BK562, BK563, BK570, HB⟩ := hrel
  cases gk with
  | zero => exact absurd HA.out (by simp [impl_TurnsOfPath.l0])
  | succ k1 =>
   have H := HA.out
   clear HA
   simp only [impl_TurnsOfPath.l0] at H
   by_cases c17 : x15_1 < (l2.length : Int)
   rotate_left
   ·rw [if_neg c17] at H
    have c17b0 : decide (x15_1 < (l2.length : Int)) = false := decide_eq_false c17
    clear c17
    simp only [Option.some.injEq, Prod.mk.injEq] at H
    obtain ⟨rfl, rfl, rfl, rfl⟩ := H
    go_wp2
    refine bodyPost_ret (results_list (rs := [.tmp 6, .tmp 7, .tmp 8, .tmp 9]) rfl (by simp) (.tmp (.tmp (.tmp (.tmp .nil))))) rfl ?_
    exact ⟨zaa19, zaa2⟩
   rw [if_pos c17] at H
   have c17b0 : decide (x15_1 < (l2.length : Int)) = true := decide_eq_true c17
   clear c17
   obtain ⟨ji18, hji18⟩ : ∃ j_ : Int, (wrap64 (x15_1 - 2)) = j_ := ⟨_, rfl⟩
   replace H : (if 0 ≤ (ji18) then (if (ji18) < (l2.length : Int) then ((impl_Board_at.f a0_0 a0_1 l0_2 (rd l2 (ji18))).bind fun bt575 => (if 0 ≤ (wrap64 (x15_1 - 1)) then (if (wrap64 (x15_1 - 1)) < (l2.length : Int) then ((impl_Board_at.f a0_0 a0_1 l0_2 (rd l2 (wrap64 (x15_1 - 1)))).bind fun bt578 => (if 0 ≤ x15_1 then ((impl_Board_at.f a0_0 a0_1 l0_2 (rd l2 x15_1)).bind fun bt581 => ((impl_turn.f bt575.1 bt575.2 bt578.1 bt578.2 bt581.1 bt581.2).bind fun t583 => ((impl_sign.f t583).bind fun t584 => (if t584 = 1 then (impl_TurnsOfPath.l0 k1 l2 (wrap64 (x12_1 + 1)) x13_1 x14_1 (wrap64 (x15_1 + 1)) a0_0 a0_1 l0_2) else (if t584 = 0 then (impl_TurnsOfPath.l0 k1 l2 x12_1 (wrap64 (x13_1 + 1)) x14_1 (wrap64 (x15_1 + 1)) a0_0 a0_1 l0_2) else (impl_TurnsOfPath.l0 k1 l2 x12_1 x13_1 (wrap64 (x14_1 + 1)) (wrap64 (x15_1 + 1)) a0_0 a0_1 l0_2)))))) else (none))) else (none)) else (none))) else (none)) else (none)) = some (r1, r2, r3, r4) := by first | (rw [hji18] at H; exact H) | (simp only [hji18] at H ⊢; exact H)
   have hji18w : (IntKind.i64.wrap (x15_1 - 2)) = ji18 := (i64_w _).trans hji18
   by_cases c19 : 0 ≤ (ji18)
   rotate_left
   ·rw [if_neg c19] at H
    exact absurd H (by simp)
   rw [if_pos c19] at H
   have c19b0 : decide (0 ≤ (ji18)) = true := decide_eq_true c19
   clear c19
   by_cases c20 : (ji18) < (l2.length : Int)
   rotate_left
   ·rw [if_neg c20] at H
    exact absurd H (by simp)
   rw [if_pos c20] at H
   have c20b0 : decide ((ji18) < (l2.length : Int)) = true := decide_eq_true c20
   clear c20
   replace H := Option.bind_eq_some_iff.mp H
   obtain ⟨⟨t575, t576⟩, A210, H⟩ := H
   replace H : (if 0 ≤ (wrap64 (x15_1 - 1)) then (if (wrap64 (x15_1 - 1)) < (l2.length : Int) then ((impl_Board_at.f a0_0 a0_1 l0_2 (rd l2 (wrap64 (x15_1 - 1)))).bind fun bt578 => (if 0 ≤ x15_1 then ((impl_Board_at.f a0_0 a0_1 l0_2 (rd l2 x15_1)).bind fun bt581 => ((impl_turn.f t575 t576 bt578.1 bt578.2 bt581.1 bt581.2).bind fun t583 => ((impl_sign.f t583).bind fun t584 => (if t584 = 1 then (impl_TurnsOfPath.l0 k1 l2 (wrap64 (x12_1 + 1)) x13_1 x14_1 (wrap64 (x15_1 + 1)) a0_0 a0_1 l0_2) else (if t584 = 0 then (impl_TurnsOfPath.l0 k1 l2 x12_1 (wrap64 (x13_1 + 1)) x14_1 (wrap64 (x15_1 + 1)) a0_0 a0_1 l0_2) else (impl_TurnsOfPath.l0 k1 l2 x12_1 x13_1 (wrap64 (x14_1 + 1)) (wrap64 (x15_1 + 1)) a0_0 a0_1 l0_2)))))) else (none))) else (none)) else (none)) = some (r1, r2, r3, r4) := H
   have A21 := Aside0.mk A210
   clear A210
   obtain ⟨ji22, hji22⟩ : ∃ j_ : Int, (wrap64 (x15_1 - 1)) = j_ := ⟨_, rfl⟩
   replace H : (if 0 ≤ (ji22) then (if (ji22) < (l2.length : Int) then ((impl_Board_at.f a0_0 a0_1 l0_2 (rd l2 (ji22))).bind fun bt578 => (if 0 ≤ x15_1 then ((impl_Board_at.f a0_0 a0_1 l0_2 (rd l2 x15_1)).bind fun bt581 => ((impl_turn.f t575 t576 bt578.1 bt578.2 bt581.1 bt581.2).bind fun t583 => ((impl_sign.f t583).bind fun t584 => (if t584 = 1 then (impl_TurnsOfPath.l0 k1 l2 (wrap64 (x12_1 + 1)) x13_1 x14_1 (wrap64 (x15_1 + 1)) a0_0 a0_1 l0_2) else (if t584 = 0 then (impl_TurnsOfPath.l0 k1 l2 x12_1 (wrap64 (x13_1 + 1)) x14_1 (wrap64 (x15_1 + 1)) a0_0 a0_1 l0_2) else (impl_TurnsOfPath.l0 k1 l2 x12_1 x13_1 (wrap64 (x14_1 + 1)) (wrap64 (x15_1 + 1)) a0_0 a0_1 l0_2)))))) else (none))) else (none)) else (none)) = some (r1, r2, r3, r4) := by first | (rw [hji22] at H; exact H) | (simp only [hji22] at H ⊢; exact H)
   (try rw [hji22] at A21)
   have hji22w : (IntKind.i64.wrap (x15_1 - 1)) = ji22 := (i64_w _).trans hji22
   by_cases c23 : 0 ≤ (ji22)
   rotate_left
   ·rw [if_neg c23] at H
    exact absurd H (by simp)
   rw [if_pos c23] at H
   have c23b0 : decide (0 ≤ (ji22)) = true := decide_eq_true c23
   clear c23
   by_cases c24 : (ji22) < (l2.length : Int)
   rotate_left
   ·rw [if_neg c24] at H
    exact absurd H (by simp)
   rw [if_pos c24] at H
   have c24b0 : decide ((ji22) < (l2.length : Int)) = true := decide_eq_true c24
   clear c24
   replace H := Option.bind_eq_some_iff.mp H
   obtain ⟨⟨t578, t579⟩, A250, H⟩ := H
   replace H : (if 0 ≤ x15_1 then ((impl_Board_at.f a0_0 a0_1 l0_2 (rd l2 x15_1)).bind fun bt581 => ((impl_turn.f t575 t576 t578 t579 bt581.1 bt581.2).bind fun t583 => ((impl_sign.f t583).bind fun t584 => (if t584 = 1 then (impl_TurnsOfPath.l0 k1 l2 (wrap64 (x12_1 + 1)) x13_1 x14_1 (wrap64 (x15_1 + 1)) a0_0 a0_1 l0_2) else (if t584 = 0 then (impl_TurnsOfPath.l0 k1 l2 x12_1 (wrap64 (x13_1 + 1)) x14_1 (wrap64 (x15_1 + 1)) a0_0 a0_1 l0_2) else (impl_TurnsOfPath.l0 k1 l2 x12_1 x13_1 (wrap64 (x14_1 + 1)) (wrap64 (x15_1 + 1)) a0_0 a0_1 l0_2)))))) else (none)) = some (r1, r2, r3, r4) := H
   have A25 := Aside0.mk A250
   clear A250
   by_cases c26 : 0 ≤ x15_1
   rotate_left
   ·rw [if_neg c26] at H
    exact absurd H (by simp)
   rw [if_pos c26] at H
   have c26b0 : decide (0 ≤ x15_1) = true := decide_eq_true c26
   clear c26
   replace H := Option.bind_eq_some_iff.mp H
   obtain ⟨⟨t581, t582⟩, A270, H⟩ := H
   replace H : ((impl_turn.f t575 t576 t578 t579 t581 t582).bind fun t583 => ((impl_sign.f t583).bind fun t584 => (if t584 = 1 then (impl_TurnsOfPath.l0 k1 l2 (wrap64 (x12_1 + 1)) x13_1 x14_1 (wrap64 (x15_1 + 1)) a0_0 a0_1 l0_2) else (if t584 = 0 then (impl_TurnsOfPath.l0 k1 l2 x12_1 (wrap64 (x13_1 + 1)) x14_1 (wrap64 (x15_1 + 1)) a0_0 a0_1 l0_2) else (impl_TurnsOfPath.l0 k1 l2 x12_1 x13_1 (wrap64 (x14_1 + 1)) (wrap64 (x15_1 + 1)) a0_0 a0_1 l0_2))))) = some (r1, r2, r3, r4) := H
   have A27 := Aside0.mk A270
   clear A270
   replace H := Option.bind_eq_some_iff.mp H
   obtain ⟨t583, A280, H⟩ := H
   replace H : ((impl_sign.f t583).bind fun t584 => (if t584 = 1 then (impl_TurnsOfPath.l0 k1 l2 (wrap64 (x12_1 + 1)) x13_1 x14_1 (wrap64 (x15_1 + 1)) a0_0 a0_1 l0_2) else (if t584 = 0 then (impl_TurnsOfPath.l0 k1 l2 x12_1 (wrap64 (x13_1 + 1)) x14_1 (wrap64 (x15_1 + 1)) a0_0 a0_1 l0_2) else (impl_TurnsOfPath.l0 k1 l2 x12_1 x13_1 (wrap64 (x14_1 + 1)) (wrap64 (x15_1 + 1)) a0_0 a0_1 l0_2)))) = some (r1, r2, r3, r4) := H
   have A28 := Aside0.mk A280
   clear A280
   replace H := Option.bind_eq_some_iff.mp H
   obtain ⟨t584, A290, H⟩ := H
   replace H : (if t584 = 1 then (impl_TurnsOfPath.l0 k1 l2 (wrap64 (x12_1 + 1)) x13_1 x14_1 (wrap64 (x15_1 + 1)) a0_0 a0_1 l0_2) else (if t584 = 0 then (impl_TurnsOfPath.l0 k1 l2 x12_1 (wrap64 (x13_1 + 1)) x14_1 (wrap64 (x15_1 + 1)) a0_0 a0_1 l0_2) else (impl_TurnsOfPath.l0 k1 l2 x12_1 x13_1 (wrap64 (x14_1 + 1)) (wrap64 (x15_1 + 1)) a0_0 a0_1 l0_2))) = some (r1, r2, r3, r4) := H
   have A29 := Aside0.mk A290
   clear A290
   by_cases c30 : t584 = 1
   ·rw [if_pos c30] at H
    have c30b0 : (t584 == 1) = true := beq_iff_eq.mpr c30
    have c30b1 : (t584 != 1) = false := bne_eq_false_iff_eq.mpr c30
    clear c30
    have H' := Aside0.mk H
    clear H
    try go_wp2
    have n0_ := Aside0.mk (Kd.R_drew HO_571005.out)
    have n1_ := Aside0.mk (Kd.S_drew HO_571006.out)
    have n2_ := Aside0.mk (blk_drew BK562.out)
    have n3_ := Aside0.mk (blk_drew BK563.out)
    have n4_ := Aside0.mk (blk_drew BK570.out)
    have n5_ := Aside0.mk (below_drew1 HB.out)
    clear HO_571005
    clear HO_571006
    clear BK562
    clear BK563
    clear BK570
    clear HB
    have HO_571005 := n0_
    have HO_571006 := n1_
    have BK562 := n2_
    have BK563 := n3_
    have BK570 := n4_
    have HB := n5_
    clear n0_ n1_ n2_ n3_ n4_ n5_
    have p574 : 0 ≤ ((ji18) : Int) := of_decide_eq_true zaa13
    have q574 : (ji18) < (l2.length : Int) := of_decide_eq_true zaa13
    obtain ⟨ad574, e574, hx574_0⟩ := Kd.at_int HR2.out (ji18) p574 q574
    have hw574_0 := hx574_0
    cases e574
    (first | replace hx574_0 := (HB.out.cell (World.block_lt_of_cell? w _ hx574_0)).trans hx574_0 | skip)
    replace p574 := eq_true p574
    replace q574 := eq_true q574
    have p577 : 0 ≤ ((ji22) : Int) := of_decide_eq_true zaa13
    have q577 : (ji22) < (l2.length : Int) := of_decide_eq_true zaa13
    obtain ⟨ad577, e577, hx577_0⟩ := Kd.at_int HR2.out (ji22) p577 q577
    have hw577_0 := hx577_0
    obtain rfl : ad574 = ad577 := (by injection e577)
    (first | replace hx577_0 := (HB.out.cell (World.block_lt_of_cell? w _ hx577_0)).trans hx577_0 | skip)
    replace p577 := eq_true p577
    replace q577 := eq_true q577
    have p580 : 0 ≤ (x15_1 : Int) := of_decide_eq_true zaa13
    have q580 : x15_1 < (l2.length : Int) := of_decide_eq_true zaa13
    obtain ⟨ad580, e580, hx580_0⟩ := Kd.at_int HR2.out x15_1 p580 q580
    have hw580_0 := hx580_0
    obtain rfl : ad574 = ad580 := (by injection e580)
    (first | replace hx580_0 := (HB.out.cell (World.block_lt_of_cell? w _ hx580_0)).trans hx580_0 | skip)
    replace p580 := eq_true p580
    replace q580 := eq_true q580
    refine start_ (n := 22) (S := fun w' => w'.cell? ⟨gb562, 0, none⟩ = some (.int .i64 a0_0) ∧ w'.cell? ⟨gb562, 1, none⟩ = some (.int .i64 a0_1) ∧ w'.cell? ⟨gb562, 2, none⟩ = some (.slice A0_2 l0_2.length c0_2) ∧ w'.cell? (ad574.add ((ji18)).toNat) = some (.int .i64 (rd l2 (ji18))) ∧ w'.cell? (ad574.add ((ji22)).toNat) = some (.int .i64 (rd l2 (ji22))) ∧ w'.cell? (ad574.add (x15_1).toNat) = some (.int .i64 (rd l2 x15_1))) (ds := []) #[false, false, false, false, false, false, false, false, false, false, false, false, false, false, false, false, false, false, false, false, false, false] (by kernel_rfl) rfl rfl ⟨(blk_cell BK562.out 0).trans rfl, (blk_cell BK562.out 1).trans rfl, (blk_cell BK562.out 2).trans rfl, ((HB.out.cell (World.block_lt_of_cell? w _ hw574_0)).trans hw574_0), ((HB.out.cell (World.block_lt_of_cell? w _ hw577_0)).trans hw577_0), ((HB.out.cell (World.block_lt_of_cell? w _ hw580_0)).trans hw580_0)⟩ (fun hHeld => ?_); refine with_tabW impl_TurnsOfPath.tab8 impl_TurnsOfPath.bits8 (fun HT_ HW_ => ?_)
    generalize wr.drew = w31 at HO_571005 HO_571006 BK562 BK563 BK570 HB hx574_0 hx577_0 hx580_0 hHeld ⊢
    refine pure_ (i := 1) (N := some 37) (v := ?_) (a' := ?_) #[false, true, false, false, false, false, false, false, false, false, false, false, false, false, false, false, false, false, false, false, false, false] rfl rfl (any_of HT_.out (by kernel_rfl)) (fun _ _ _ h => h) (Or.inl ⟨by rfl, ?_⟩) ?_ ?_
    rotate_left
    ·intro w'
     go_simp
     with_reducible rfl
    rotate_left
    ·simp only [Act.put, List.setIfInBounds_toArray, List.set_cons_zero, List.set_cons_succ, i64_w, i32_w]
     rfl
    refine pure_ (i := 2) (N := some 38) (v := ?_) (a' := ?_) #[false, true, true, false, false, false, false, false, false, false, false, false, false, false, false, false, false, false, false, false, false, false] rfl rfl (any_of HT_.out (by kernel_rfl)) (fun _ _ _ h => h) (Or.inl ⟨by rfl, ?_⟩) ?_ ?_
    rotate_left
    ·intro w'
     go_simp
     with_reducible rfl
    rotate_left
    ·simp only [Act.put, List.setIfInBounds_toArray, List.set_cons_zero, List.set_cons_succ, i64_w, i32_w]
     rfl
    refine pure_ (i := 3) (N := some 39) (v := ?_) (a' := ?_) #[false, true, true, true, false, false, false, false, false, false, false, false, false, false, false, false, false, false, false, false, false, false] rfl rfl (any_of HT_.out (by kernel_rfl)) (fun _ _ _ h => h) (Or.inl ⟨by rfl, ?_⟩) ?_ ?_
    rotate_left
    ·intro w'
     go_simp
     with_reducible rfl
    rotate_left
    ·simp only [Act.put, List.setIfInBounds_toArray, List.set_cons_zero, List.set_cons_succ, i64_w, i32_w]
     rfl
    refine pure_ (i := 4) (N := some 40) (v := ?_) (a' := ?_) #[false, true, true, true, true, false, false, false, false, false, false, false, false, false, false, false, false, false, false, false, false, false] rfl rfl (any_of HT_.out (by kernel_rfl)) (fun _ _ _ h => h) (Or.inl ⟨by rfl, ?_⟩) ?_ ?_
    rotate_left
    ·intro w'
     go_simp
     with_reducible rfl
    rotate_left
    ·simp only [Act.put, List.setIfInBounds_toArray, List.set_cons_zero, List.set_cons_succ, i64_w, i32_w]
     rfl
    refine pure_ (i := 8) (N := some 44) (v := ?_) (a' := ?_) #[false, true, true, true, true, false, false, false, true, false, false, false, false, false, false, false, false, false, false, false, false, false] rfl rfl (any_of HT_.out (by kernel_rfl)) (fun _ _ _ h => h) (Or.inl ⟨by rfl, ?_⟩) ?_ ?_
    rotate_left
    ·intro w'
     go_simp
     with_reducible rfl
    rotate_left
    ·simp only [Act.put, List.setIfInBounds_toArray, List.set_cons_zero, List.set_cons_succ, i64_w, i32_w]
     rfl
    refine pure_ (i := 9) (N := some 45) (v := ?_) (a' := ?_) #[false, true, true, true, true, false, false, false, true, true, false, false, false, false, false, false, false, false, false, false, false, false] rfl rfl (any_of HT_.out (by kernel_rfl)) (fun _ _ _ h => h) (Or.inl ⟨by rfl, ?_⟩) ?_ ?_
    rotate_left
    ·intro w'
     go_simp
     with_reducible rfl
    rotate_left
    ·simp only [Act.put, List.setIfInBounds_toArray, List.set_cons_zero, List.set_cons_succ, i64_w, i32_w]
     rfl
    refine pure_ (i := 10) (N := some 46) (v := ?_) (a' := ?_) #[false, true, true, true, true, false, false, false, true, true, true, false, false, false, false, false, false, false, false, false, false, false] rfl rfl (any_of HT_.out (by kernel_rfl)) (fun _ _ _ h => h) (Or.inl ⟨by rfl, ?_⟩) ?_ ?_
    rotate_left
    ·intro w'
     go_simp
     with_reducible rfl
    rotate_left
    ·simp only [Act.put, List.setIfInBounds_toArray, List.set_cons_zero, List.set_cons_succ, i64_w, i32_w]
     rfl
    refine pure_ (i := 11) (N := some 47) (v := ?_) (a' := ?_) #[false, true, true, true, true, false, false, false, true, true, true, true, false, false, false, false, false, false, false, false, false, false] rfl rfl (any_of HT_.out (by kernel_rfl)) (fun _ _ _ h => h) (Or.inl ⟨by rfl, ?_⟩) ?_ ?_
    rotate_left
    ·intro w'
     go_simp
     with_reducible rfl
    rotate_left
    ·simp only [Act.put, List.setIfInBounds_toArray, List.set_cons_zero, List.set_cons_succ, i64_w, i32_w]
     rfl
    refine pure_ (i := 15) (N := some 51) (v := ?_) (a' := ?_) #[false, true, true, true, true, false, false, false, true, true, true, true, false, false, false, true, false, false, false, false, false, false] rfl rfl (any_of HT_.out (by kernel_rfl)) (fun _ _ _ h => h) (Or.inl ⟨by rfl, ?_⟩) ?_ ?_
    rotate_left
    ·intro w'
     go_simp
     with_reducible rfl
    rotate_left
    ·simp only [Act.put, List.setIfInBounds_toArray, List.set_cons_zero, List.set_cons_succ, i64_w, i32_w]
     rfl
    refine pure_ (i := 16) (N := some 52) (v := ?_) (a' := ?_) #[false, true, true, true, true, false, false, false, true, true, true, true, false, false, false, true, true, false, false, false, false, false] rfl rfl (any_of HT_.out (by kernel_rfl)) (fun _ _ _ h => h) (Or.inl ⟨by rfl, ?_⟩) ?_ ?_
    rotate_left
    ·intro w'
     go_simp
     with_reducible rfl
    rotate_left
    ·simp only [Act.put, List.setIfInBounds_toArray, List.set_cons_zero, List.set_cons_succ, i64_w, i32_w]
     rfl
    refine pure_ (i := 17) (N := some 53) (v := ?_) (a' := ?_) #[false, true, true, true, true, false, false, false, true, true, true, true, false, false, false, true, true, true, false, false, false, false] rfl rfl (any_of HT_.out (by kernel_rfl)) (fun _ _ _ h => h) (Or.inl ⟨by rfl, ?_⟩) ?_ ?_
    rotate_left
    ·intro w'
     go_simp
     with_reducible rfl
    rotate_left
    ·simp only [Act.put, List.setIfInBounds_toArray, List.set_cons_zero, List.set_cons_succ, i64_w, i32_w]
     rfl
    refine take_ (i := 0) (N := some 36) (v := ?_) (a' := ?_) #[true, true, true, true, true, false, false, false, true, true, true, true, false, false, false, true, true, true, false, false, false, false] rfl rfl (take_ofW HT_.out HW_.out (by kernel_rfl)) (fun _ _ _ h => h) (Or.inl ⟨by rfl, ?_⟩) hHeld ?_ ?_
    rotate_left
    ·rintro w' ⟨s0, s1, s2, s3, s4, s5⟩
     go_simp
     with_reducible rfl
    rotate_left
    ·simp only [Act.put, List.setIfInBounds_toArray, List.set_cons_zero, List.set_cons_succ, i64_w, i32_w]
     rfl
    refine take_ (i := 5) (N := some 41) (v := ?_) (a' := ?_) #[true, true, true, true, true, true, false, false, true, true, true, true, false, false, false, true, true, true, false, false, false, false] rfl rfl (take_ofW HT_.out HW_.out (by kernel_rfl)) (fun _ _ _ h => h) (Or.inl ⟨by rfl, ?_⟩) hHeld ?_ ?_
    rotate_left
    ·rintro w' ⟨s0, s1, s2, s3, s4, s5⟩
     go_simp
     with_reducible rfl
    rotate_left
    ·simp only [Act.put, List.setIfInBounds_toArray, List.set_cons_zero, List.set_cons_succ, i64_w, i32_w]
     rfl
    refine take_ (i := 7) (N := some 43) (v := ?_) (a' := ?_) #[true, true, true, true, true, true, false, true, true, true, true, true, false, false, false, true, true, true, false, false, false, false] rfl rfl (take_ofW HT_.out HW_.out (by kernel_rfl)) (fun _ _ _ h => h) (Or.inl ⟨by rfl, ?_⟩) hHeld ?_ ?_
    rotate_left
    ·rintro w' ⟨s0, s1, s2, s3, s4, s5⟩
     go_simp
     with_reducible rfl
    rotate_left
    ·simp only [Act.put, List.setIfInBounds_toArray, List.set_cons_zero, List.set_cons_succ, i64_w, i32_w]
     rfl
    refine take_ (i := 12) (N := some 48) (v := ?_) (a' := ?_) #[true, true, true, true, true, true, false, true, true, true, true, true, true, false, false, true, true, true, false, false, false, false] rfl rfl (take_ofW HT_.out HW_.out (by kernel_rfl)) (fun _ _ _ h => h) (Or.inl ⟨by rfl, ?_⟩) hHeld ?_ ?_
    rotate_left
    ·rintro w' ⟨s0, s1, s2, s3, s4, s5⟩
     go_simp
     with_reducible rfl
    rotate_left
    ·simp only [Act.put, List.setIfInBounds_toArray, List.set_cons_zero, List.set_cons_succ, i64_w, i32_w]
     rfl
    refine take_ (i := 14) (N := some 50) (v := ?_) (a' := ?_) #[true, true, true, true, true, true, false, true, true, true, true, true, true, false, true, true, true, true, false, false, false, false] rfl rfl (take_ofW HT_.out HW_.out (by kernel_rfl)) (fun _ _ _ h => h) (Or.inl ⟨by rfl, ?_⟩) hHeld ?_ ?_
    rotate_left
    ·rintro w' ⟨s0, s1, s2, s3, s4, s5⟩
     go_simp
     with_reducible rfl
    rotate_left
    ·simp only [Act.put, List.setIfInBounds_toArray, List.set_cons_zero, List.set_cons_succ, i64_w, i32_w]
     rfl
    refine take_ (i := 18) (N := some 54) (v := ?_) (a' := ?_) #[true, true, true, true, true, true, false, true, true, true, true, true, true, false, true, true, true, true, true, false, false, false] rfl rfl (take_ofW HT_.out HW_.out (by kernel_rfl)) (fun _ _ _ h => h) (Or.inl ⟨by rfl, ?_⟩) hHeld ?_ ?_
    rotate_left
    ·rintro w' ⟨s0, s1, s2, s3, s4, s5⟩
     go_simp
     with_reducible rfl
    rotate_left
    ·simp only [Act.put, List.setIfInBounds_toArray, List.set_cons_zero, List.set_cons_succ, i64_w, i32_w]
     rfl
    refine one_ (i := 6) (N := some 42) #[true, true, true, true, true, true, true, true, true, true, true, true, true, false, true, true, true, true, true, false, false, false] rfl rfl (one_of HT_.out (by kernel_rfl)) (by decide) (fun K hK => ?_)
    refine goes_ Try.func68 (by kernel_rfl) rfl #[.agg #[.int .i64 a0_0, .int .i64 a0_1, .slice A0_2 l0_2.length c0_2], .int .i64 (rd l2 (ji18))] (by rfl) rfl rfl zaa16 ?_
    with_reducible refine (impl_Board_at.calls a0_0 a0_1 _ _ l0_2 (rd l2 (ji18)) t575 t576 _ ?side1 ?side2 A21.out).mono ?_
    (case side1 => exact zaa7)
    (case side2 => exact HC0_2.out)
    rintro e w32 ⟨rfl, hb⟩
    refine ⟨_, rfl, ?_⟩
    have n0_ := Aside0.mk (Kd.R_below zaa10 hb)
    have n1_ := Aside0.mk (Kd.S_below zaa9 hb)
    have n2_ := Aside0.mk (blk_below (g := gb562) (o := .cells #[.int .i64 a0_0, .int .i64 a0_1, .slice A0_2 l0_2.length c0_2] 30 (0, 0)) zaa3 hb)
    have n3_ := Aside0.mk (blk_below (g := gb563) (o := .cells #[.int .i64 a1_0, .int .i64 a1_1] 32 (0, 0)) zaa4 hb)
    have n4_ := Aside0.mk (blk_below (g := gb570) (o := .cells #[.int .i64 a0_0, .int .i64 a0_1, .slice A0_2 l0_2.length c0_2, .int .i64 a1_0, .int .i64 a1_1, .slice Ao14 t564.length co14, .slice Ao15 t567.length co15] 60 (0, 0)) zaa6 hb)
    have n5_ := Aside0.mk (below_step zaa2 hb)
    clear HO_571005
    clear HO_571006
    clear BK562
    clear BK563
    clear BK570
    clear HB
    have HO_571005 := n0_
    have HO_571006 := n1_
    have BK562 := n2_
    have BK563 := n3_
    have BK570 := n4_
    have HB := n5_
    clear n0_ n1_ n2_ n3_ n4_ n5_
    (try clear hb)
    (try clear hb2)
    (try clear hk)
    (try clear hi)
    (try clear hna_)
    (try clear hnb_)
    refine hK.out _ _ ⟨(blk_cell BK562.out 0).trans rfl, (blk_cell BK562.out 1).trans rfl, (blk_cell BK562.out 2).trans rfl, ((HB.out.cell (World.block_lt_of_cell? w _ hw574_0)).trans hw574_0), ((HB.out.cell (World.block_lt_of_cell? w _ hw577_0)).trans hw577_0), ((HB.out.cell (World.block_lt_of_cell? w _ hw580_0)).trans hw580_0)⟩ (fun hHeld => ?_)
    clear hK K
    refine norm_ (a' := ?_) ?_ ?_
    rotate_left
    ·show Act.put _ (some 42) _ = _
     simp only [Act.put, List.setIfInBounds_toArray, List.set_cons_zero, List.set_cons_succ, i64_w, i32_w]
     rfl
    refine one_ (i := 13) (N := some 49) #[true, true, true, true, true, true, true, true, true, true, true, true, true, true, true, true, true, true, true, false, false, false] rfl rfl (one_of HT_.out (by kernel_rfl)) (by decide) (fun K hK => ?_)
    refine goes_ Try.func68 (by kernel_rfl) rfl #[.agg #[.int .i64 a0_0, .int .i64 a0_1, .slice A0_2 l0_2.length c0_2], .int .i64 (rd l2 (ji22))] (by rfl) rfl rfl zaa15 ?_
    with_reducible refine (impl_Board_at.calls a0_0 a0_1 _ _ l0_2 (rd l2 (ji22)) t578 t579 _ ?side1 ?side2 A25.out).mono ?_
    (case side1 => exact zaa7)
    (case side2 => exact HC0_2.out)
    rintro e w33 ⟨rfl, hb⟩
    refine ⟨_, rfl, ?_⟩
    have n0_ := Aside0.mk (Kd.R_below zaa10 hb)
    have n1_ := Aside0.mk (Kd.S_below zaa9 hb)
    have n2_ := Aside0.mk (blk_below (g := gb562) (o := .cells #[.int .i64 a0_0, .int .i64 a0_1, .slice A0_2 l0_2.length c0_2] 30 (0, 0)) zaa3 hb)
    have n3_ := Aside0.mk (blk_below (g := gb563) (o := .cells #[.int .i64 a1_0, .int .i64 a1_1] 32 (0, 0)) zaa4 hb)
    have n4_ := Aside0.mk (blk_below (g := gb570) (o := .cells #[.int .i64 a0_0, .int .i64 a0_1, .slice A0_2 l0_2.length c0_2, .int .i64 a1_0, .int .i64 a1_1, .slice Ao14 t564.length co14, .slice Ao15 t567.length co15] 60 (0, 0)) zaa6 hb)
    have n5_ := Aside0.mk (below_step zaa2 hb)
    clear HO_571005
    clear HO_571006
    clear BK562
    clear BK563
    clear BK570
    clear HB
    have HO_571005 := n0_
    have HO_571006 := n1_
    have BK562 := n2_
    have BK563 := n3_
    have BK570 := n4_
    have HB := n5_
    clear n0_ n1_ n2_ n3_ n4_ n5_
    (try clear hb)
    (try clear hb2)
    (try clear hk)
    (try clear hi)
    (try clear hna_)
    (try clear hnb_)
    refine hK.out _ _ ⟨(blk_cell BK562.out 0).trans rfl, (blk_cell BK562.out 1).trans rfl, (blk_cell BK562.out 2).trans rfl, ((HB.out.cell (World.block_lt_of_cell? w _ hw574_0)).trans hw574_0), ((HB.out.cell (World.block_lt_of_cell? w _ hw577_0)).trans hw577_0), ((HB.out.cell (World.block_lt_of_cell? w _ hw580_0)).trans hw580_0)⟩ (fun hHeld => ?_)
    clear hK K
    refine norm_ (a' := ?_) ?_ ?_
    rotate_left
    ·show Act.put _ (some 49) _ = _
     simp only [Act.put, List.setIfInBounds_toArray, List.set_cons_zero, List.set_cons_succ, i64_w, i32_w]
     rfl
    refine one_ (i := 19) (N := some 55) #[true, true, true, true, true, true, true, true, true, true, true, true, true, true, true, true, true, true, true, true, false, false] rfl rfl (one_of HT_.out (by kernel_rfl)) (by decide) (fun K hK => ?_)
    refine goes_ Try.func68 (by kernel_rfl) rfl #[.agg #[.int .i64 a0_0, .int .i64 a0_1, .slice A0_2 l0_2.length c0_2], .int .i64 (rd l2 x15_1)] (by rfl) rfl rfl zaa8 ?_
    with_reducible refine (impl_Board_at.calls a0_0 a0_1 _ _ l0_2 (rd l2 x15_1) t581 t582 _ ?side1 ?side2 A27.out).mono ?_
    (case side1 => exact zaa7)
    (case side2 => exact HC0_2.out)
    rintro e w34 ⟨rfl, hb⟩
    refine ⟨_, rfl, ?_⟩
    have n0_ := Aside0.mk (Kd.R_below zaa10 hb)
    have n1_ := Aside0.mk (Kd.S_below zaa9 hb)
    have n2_ := Aside0.mk (blk_below (g := gb562) (o := .cells #[.int .i64 a0_0, .int .i64 a0_1, .slice A0_2 l0_2.length c0_2] 30 (0, 0)) zaa3 hb)
    have n3_ := Aside0.mk (blk_below (g := gb563) (o := .cells #[.int .i64 a1_0, .int .i64 a1_1] 32 (0, 0)) zaa4 hb)
    have n4_ := Aside0.mk (blk_below (g := gb570) (o := .cells #[.int .i64 a0_0, .int .i64 a0_1, .slice A0_2 l0_2.length c0_2, .int .i64 a1_0, .int .i64 a1_1, .slice Ao14 t564.length co14, .slice Ao15 t567.length co15] 60 (0, 0)) zaa6 hb)
    have n5_ := Aside0.mk (below_step zaa2 hb)
    clear HO_571005
    clear HO_571006
    clear BK562
    clear BK563
    clear BK570
    clear HB
    have HO_571005 := n0_
    have HO_571006 := n1_
    have BK562 := n2_
    have BK563 := n3_
    have BK570 := n4_
    have HB := n5_
    clear n0_ n1_ n2_ n3_ n4_ n5_
    (try clear hb)
    (try clear hb2)
    (try clear hk)
    (try clear hi)
    (try clear hna_)
    (try clear hnb_)
    refine hK.out _ _ ⟨(blk_cell BK562.out 0).trans rfl, (blk_cell BK562.out 1).trans rfl, (blk_cell BK562.out 2).trans rfl, ((HB.out.cell (World.block_lt_of_cell? w _ hw574_0)).trans hw574_0), ((HB.out.cell (World.block_lt_of_cell? w _ hw577_0)).trans hw577_0), ((HB.out.cell (World.block_lt_of_cell? w _ hw580_0)).trans hw580_0)⟩ (fun hHeld => ?_)
    clear hK K
    refine norm_ (a' := ?_) ?_ ?_
    rotate_left
    ·show Act.put _ (some 55) _ = _
     simp only [Act.put, List.setIfInBounds_toArray, List.set_cons_zero, List.set_cons_succ, i64_w, i32_w]
     rfl
    refine one_ (i := 20) (N := some 56) #[true, true, true, true, true, true, true, true, true, true, true, true, true, true, true, true, true, true, true, true, true, false] rfl rfl (one_of HT_.out (by kernel_rfl)) (by decide) (fun K hK => ?_)
    refine goes_ Try.func67 (by kernel_rfl) rfl #[.agg #[.int .i64 t575, .int .i64 t576], .agg #[.int .i64 t578, .int .i64 t579], .agg #[.int .i64 t581, .int .i64 t582]] (by rfl) rfl rfl zaa8 ?_
    with_reducible refine (impl_turn.calls t575 t576 t578 t579 t581 t582 t583 _ A28.out).mono ?_
    rintro e w35 ⟨rfl, hb⟩
    refine ⟨_, rfl, ?_⟩
    have n0_ := Aside0.mk (Kd.R_below zaa10 hb)
    have n1_ := Aside0.mk (Kd.S_below zaa9 hb)
    have n2_ := Aside0.mk (blk_below (g := gb562) (o := .cells #[.int .i64 a0_0, .int .i64 a0_1, .slice A0_2 l0_2.length c0_2] 30 (0, 0)) zaa3 hb)
    have n3_ := Aside0.mk (blk_below (g := gb563) (o := .cells #[.int .i64 a1_0, .int .i64 a1_1] 32 (0, 0)) zaa4 hb)
    have n4_ := Aside0.mk (blk_below (g := gb570) (o := .cells #[.int .i64 a0_0, .int .i64 a0_1, .slice A0_2 l0_2.length c0_2, .int .i64 a1_0, .int .i64 a1_1, .slice Ao14 t564.length co14, .slice Ao15 t567.length co15] 60 (0, 0)) zaa6 hb)
    have n5_ := Aside0.mk (below_step zaa2 hb)
    clear HO_571005
    clear HO_571006
    clear BK562
    clear BK563
    clear BK570
    clear HB
    have HO_571005 := n0_
    have HO_571006 := n1_
    have BK562 := n2_
    have BK563 := n3_
    have BK570 := n4_
    have HB := n5_
    clear n0_ n1_ n2_ n3_ n4_ n5_
    (try clear hb)
    (try clear hb2)
    (try clear hk)
    (try clear hi)
    (try clear hna_)
    (try clear hnb_)
    refine hK.out _ _ ⟨(blk_cell BK562.out 0).trans rfl, (blk_cell BK562.out 1).trans rfl, (blk_cell BK562.out 2).trans rfl, ((HB.out.cell (World.block_lt_of_cell? w _ hw574_0)).trans hw574_0), ((HB.out.cell (World.block_lt_of_cell? w _ hw577_0)).trans hw577_0), ((HB.out.cell (World.block_lt_of_cell? w _ hw580_0)).trans hw580_0)⟩ (fun hHeld => ?_)
    clear hK K
    refine norm_ (a' := ?_) ?_ ?_
    rotate_left
    ·show Act.put _ (some 56) _ = _
     simp only [Act.put, List.setIfInBounds_toArray, List.set_cons_zero, List.set_cons_succ, i64_w, i32_w]
     rfl
    refine one_ (i := 21) (N := some 57) #[true, true, true, true, true, true, true, true, true, true, true, true, true, true, true, true, true, true, true, true, true, true] rfl rfl (one_of HT_.out (by kernel_rfl)) (by decide) (fun K hK => ?_)
    refine goes_ Try.func66 (by kernel_rfl) rfl #[.int .i64 t583] (by rfl) rfl rfl zaa8 ?_
    with_reducible refine (impl_sign.calls t583 t584 _ A29.out).mono ?_
    rintro e w' ⟨rfl, ⟨nd, rfl⟩⟩
    refine ⟨_, rfl, ?_⟩
    refine hK.out _ _ ⟨(blk_cell BK562.out 0).trans rfl, (blk_cell BK562.out 1).trans rfl, (blk_cell BK562.out 2).trans rfl, ((HB.out.cell (World.block_lt_of_cell? w _ hw574_0)).trans hw574_0), ((HB.out.cell (World.block_lt_of_cell? w _ hw577_0)).trans hw577_0), ((HB.out.cell (World.block_lt_of_cell? w _ hw580_0)).trans hw580_0)⟩ (fun hHeld => ?_)
    clear hK K
    refine norm_ (a' := ?_) ?_ ?_
    rotate_left
    ·show Act.put _ (some 57) _ = _
     simp only [Act.put, List.setIfInBounds_toArray, List.set_cons_zero, List.set_cons_succ, i64_w, i32_w]
     rfl
    refine done_ (done_of HT_.out (by kernel_rfl)) ?_
    try go_wp2
    go_roundg k1
    case measure => have := HK1.out; omega
    case rel => exact ⟨(wrap64 (x12_1 + 1)), (x13_1), (x14_1), (wrap64 (x15_1 + 1)), zaa14, zaa14, zaa14, zaa14, H', ⟨by have := HK1.out; omega⟩, ⟨zaa10⟩, ⟨zaa9⟩, ⟨zaa3⟩, ⟨zaa4⟩, ⟨zaa6⟩, ⟨zaa2⟩⟩
   rw [if_neg c30] at H
   have c30b0 : (t584 == 1) = false := beq_eq_false_iff_ne.mpr c30
   have c30b1 : (t584 != 1) = true := bne_iff_ne.mpr c30
   by_cases c36 : t584 = 0
   rotate_left
   ·rw [if_neg c36] at H
    have c36b0 : (t584 == 0) = false := beq_eq_false_iff_ne.mpr c36
    have c36b1 : (t584 != 0) = true := bne_iff_ne.mpr c36
    have H' := Aside0.mk H
    clear H
    try go_wp2
    have n0_ := Aside0.mk (Kd.R_drew HO_571005.out)
    have n1_ := Aside0.mk (Kd.S_drew HO_571006.out)
    have n2_ := Aside0.mk (blk_drew BK562.out)
    have n3_ := Aside0.mk (blk_drew BK563.out)
    have n4_ := Aside0.mk (blk_drew BK570.out)
    have n5_ := Aside0.mk (below_drew1 HB.out)
    clear HO_571005
    clear HO_571006
    clear BK562
    clear BK563
    clear BK570
    clear HB
    have HO_571005 := n0_
    have HO_571006 := n1_
    have BK562 := n2_
    have BK563 := n3_
    have BK570 := n4_
    have HB := n5_
    clear n0_ n1_ n2_ n3_ n4_ n5_
    have p574 : 0 ≤ ((ji18) : Int) := of_decide_eq_true zaa13
    have q574 : (ji18) < (l2.length : Int) := of_decide_eq_true zaa13
    obtain ⟨ad574, e574, hx574_0⟩ := Kd.at_int HR2.out (ji18) p574 q574
    have hw574_0 := hx574_0
    cases e574
    (first | replace hx574_0 := (HB.out.cell (World.block_lt_of_cell? w _ hx574_0)).trans hx574_0 | skip)
    replace p574 := eq_true p574
    replace q574 := eq_true q574
    have p577 : 0 ≤ ((ji22) : Int) := of_decide_eq_true zaa13
    have q577 : (ji22) < (l2.length : Int) := of_decide_eq_true zaa13
    obtain ⟨ad577, e577, hx577_0⟩ := Kd.at_int HR2.out (ji22) p577 q577
    have hw577_0 := hx577_0
    obtain rfl : ad574 = ad577 := (by injection e577)
    (first | replace hx577_0 := (HB.out.cell (World.block_lt_of_cell? w _ hx577_0)).trans hx577_0 | skip)
    replace p577 := eq_true p577
    replace q577 := eq_true q577
    have p580 : 0 ≤ (x15_1 : Int) := of_decide_eq_true zaa13
    have q580 : x15_1 < (l2.length : Int) := of_decide_eq_true zaa13
    obtain ⟨ad580, e580, hx580_0⟩ := Kd.at_int HR2.out x15_1 p580 q580
    have hw580_0 := hx580_0
    obtain rfl : ad574 = ad580 := (by injection e580)
    (first | replace hx580_0 := (HB.out.cell (World.block_lt_of_cell? w _ hx580_0)).trans hx580_0 | skip)
    replace p580 := eq_true p580
    replace q580 := eq_true q580
    refine start_ (n := 22) (S := fun w' => w'.cell? ⟨gb562, 0, none⟩ = some (.int .i64 a0_0) ∧ w'.cell? ⟨gb562, 1, none⟩ = some (.int .i64 a0_1) ∧ w'.cell? ⟨gb562, 2, none⟩ = some (.slice A0_2 l0_2.length c0_2) ∧ w'.cell? (ad574.add ((ji18)).toNat) = some (.int .i64 (rd l2 (ji18))) ∧ w'.cell? (ad574.add ((ji22)).toNat) = some (.int .i64 (rd l2 (ji22))) ∧ w'.cell? (ad574.add (x15_1).toNat) = some (.int .i64 (rd l2 x15_1))) (ds := []) #[false, false, false, false, false, false, false, false, false, false, false, false, false, false, false, false, false, false, false, false, false, false] (by kernel_rfl) rfl rfl ⟨(blk_cell BK562.out 0).trans rfl, (blk_cell BK562.out 1).trans rfl, (blk_cell BK562.out 2).trans rfl, ((HB.out.cell (World.block_lt_of_cell? w _ hw574_0)).trans hw574_0), ((HB.out.cell (World.block_lt_of_cell? w _ hw577_0)).trans hw577_0), ((HB.out.cell (World.block_lt_of_cell? w _ hw580_0)).trans hw580_0)⟩ (fun hHeld => ?_); refine with_tabW impl_TurnsOfPath.tab8 impl_TurnsOfPath.bits8 (fun HT_ HW_ => ?_)
    generalize wr.drew = w42 at HO_571005 HO_571006 BK562 BK563 BK570 HB hx574_0 hx577_0 hx580_0 hHeld ⊢
    refine pure_ (i := 1) (N := some 37) (v := ?_) (a' := ?_) #[false, true, false, false, false, false, false, false, false, false, false, false, false, false, false, false, false, false, false, false, false, false] rfl rfl (any_of HT_.out (by kernel_rfl)) (fun _ _ _ h => h) (Or.inl ⟨by rfl, ?_⟩) ?_ ?_
    rotate_left
    ·intro w'
     go_simp
     with_reducible rfl
    rotate_left
    ·simp only [Act.put, List.setIfInBounds_toArray, List.set_cons_zero, List.set_cons_succ, i64_w, i32_w]
     rfl
    refine pure_ (i := 2) (N := some 38) (v := ?_) (a' := ?_) #[false, true, true, false, false, false, false, false, false, false, false, false, false, false, false, false, false, false, false, false, false, false] rfl rfl (any_of HT_.out (by kernel_rfl)) (fun _ _ _ h => h) (Or.inl ⟨by rfl, ?_⟩) ?_ ?_
    rotate_left
    ·intro w'
     go_simp
     with_reducible rfl
    rotate_left
    ·simp only [Act.put, List.setIfInBounds_toArray, List.set_cons_zero, List.set_cons_succ, i64_w, i32_w]
     rfl
    refine pure_ (i := 3) (N := some 39) (v := ?_) (a' := ?_) #[false, true, true, true, false, false, false, false, false, false, false, false, false, false, false, false, false, false, false, false, false, false] rfl rfl (any_of HT_.out (by kernel_rfl)) (fun _ _ _ h => h) (Or.inl ⟨by rfl, ?_⟩) ?_ ?_
    rotate_left
    ·intro w'
     go_simp
     with_reducible rfl
    rotate_left
    ·simp only [Act.put, List.setIfInBounds_toArray, List.set_cons_zero, List.set_cons_succ, i64_w, i32_w]
     rfl
    refine pure_ (i := 4) (N := some 40) (v := ?_) (a' := ?_) #[false, true, true, true, true, false, false, false, false, false, false, false, false, false, false, false, false, false, false, false, false, false] rfl rfl (any_of HT_.out (by kernel_rfl)) (fun _ _ _ h => h) (Or.inl ⟨by rfl, ?_⟩) ?_ ?_
    rotate_left
    ·intro w'
     go_simp
     with_reducible rfl
    rotate_left
    ·simp only [Act.put, List.setIfInBounds_toArray, List.set_cons_zero, List.set_cons_succ, i64_w, i32_w]
     rfl
    refine pure_ (i := 8) (N := some 44) (v := ?_) (a' := ?_) #[false, true, true, true, true, false, false, false, true, false, false, false, false, false, false, false, false, false, false, false, false, false] rfl rfl (any_of HT_.out (by kernel_rfl)) (fun _ _ _ h => h) (Or.inl ⟨by rfl, ?_⟩) ?_ ?_
    rotate_left
    ·intro w'
     go_simp
     with_reducible rfl
    rotate_left
    ·simp only [Act.put, List.setIfInBounds_toArray, List.set_cons_zero, List.set_cons_succ, i64_w, i32_w]
     rfl
    refine pure_ (i := 9) (N := some 45) (v := ?_) (a' := ?_) #[false, true, true, true, true, false, false, false, true, true, false, false, false, false, false, false, false, false, false, false, false, false] rfl rfl (any_of HT_.out (by kernel_rfl)) (fun _ _ _ h => h) (Or.inl ⟨by rfl, ?_⟩) ?_ ?_
    rotate_left
    ·intro w'
     go_simp
     with_reducible rfl
    rotate_left
    ·simp only [Act.put, List.setIfInBounds_toArray, List.set_cons_zero, List.set_cons_succ, i64_w, i32_w]
     rfl
    refine pure_ (i := 10) (N := some 46) (v := ?_) (a' := ?_) #[false, true, true, true, true, false, false, false, true, true, true, false, false, false, false, false, false, false, false, false, false, false] rfl rfl (any_of HT_.out (by kernel_rfl)) (fun _ _ _ h => h) (Or.inl ⟨by rfl, ?_⟩) ?_ ?_
    rotate_left
    ·intro w'
     go_simp
     with_reducible rfl
    rotate_left
    ·simp only [Act.put, List.setIfInBounds_toArray, List.set_cons_zero, List.set_cons_succ, i64_w, i32_w]
     rfl
    refine pure_ (i := 11) (N := some 47) (v := ?_) (a' := ?_) #[false, true, true, true, true, false, false, false, true, true, true, true, false, false, false, false, false, false, false, false, false, false] rfl rfl (any_of HT_.out (by kernel_rfl)) (fun _ _ _ h => h) (Or.inl ⟨by rfl, ?_⟩) ?_ ?_
    rotate_left
    ·intro w'
     go_simp
     with_reducible rfl
    rotate_left
    ·simp only [Act.put, List.setIfInBounds_toArray, List.set_cons_zero, List.set_cons_succ, i64_w, i32_w]
     rfl
    refine pure_ (i := 15) (N := some 51) (v := ?_) (a' := ?_) #[false, true, true, true, true, false, false, false, true, true, true, true, false, false, false, true, false, false, false, false, false, false] rfl rfl (any_of HT_.out (by kernel_rfl)) (fun _ _ _ h => h) (Or.inl ⟨by rfl, ?_⟩) ?_ ?_
    rotate_left
    ·intro w'
     go_simp
     with_reducible rfl
    rotate_left
    ·simp only [Act.put, List.setIfInBounds_toArray, List.set_cons_zero, List.set_cons_succ, i64_w, i32_w]
     rfl
    refine pure_ (i := 16) (N := some 52) (v := ?_) (a' := ?_) #[false, true, true, true, true, false, false, false, true, true, true, true, false, false, false, true, true, false, false, false, false, false] rfl rfl (any_of HT_.out (by kernel_rfl)) (fun _ _ _ h => h) (Or.inl ⟨by rfl, ?_⟩) ?_ ?_
    rotate_left
    ·intro w'
     go_simp
     with_reducible rfl
    rotate_left
    ·simp only [Act.put, List.setIfInBounds_toArray, List.set_cons_zero, List.set_cons_succ, i64_w, i32_w]
     rfl
    refine pure_ (i := 17) (N := some 53) (v := ?_) (a' := ?_) #[false, true, true, true, true, false, false, false, true, true, true, true, false, false, false, true, true, true, false, false, false, false] rfl rfl (any_of HT_.out (by kernel_rfl)) (fun _ _ _ h => h) (Or.inl ⟨by rfl, ?_⟩) ?_ ?_
    rotate_left
    ·intro w'
     go_simp
     with_reducible rfl
    rotate_left
    ·simp only [Act.put, List.setIfInBounds_toArray, List.set_cons_zero, List.set_cons_succ, i64_w, i32_w]
     rfl
    refine take_ (i := 0) (N := some 36) (v := ?_) (a' := ?_) #[true, true, true, true, true, false, false, false, true, true, true, true, false, false, false, true, true, true, false, false, false, false] rfl rfl (take_ofW HT_.out HW_.out (by kernel_rfl)) (fun _ _ _ h => h) (Or.inl ⟨by rfl, ?_⟩) hHeld ?_ ?_
    rotate_left
    ·rintro w' ⟨s0, s1, s2, s3, s4, s5⟩
     go_simp
     with_reducible rfl
    rotate_left
    ·simp only [Act.put, List.setIfInBounds_toArray, List.set_cons_zero, List.set_cons_succ, i64_w, i32_w]
     rfl
    refine take_ (i := 5) (N := some 41) (v := ?_) (a' := ?_) #[true, true, true, true, true, true, false, false, true, true, true, true, false, false, false, true, true, true, false, false, false, false] rfl rfl (take_ofW HT_.out HW_.out (by kernel_rfl)) (fun _ _ _ h => h) (Or.inl ⟨by rfl, ?_⟩) hHeld ?_ ?_
    rotate_left
    ·rintro w' ⟨s0, s1, s2, s3, s4, s5⟩
     go_simp
     with_reducible rfl
    rotate_left
    ·simp only [Act.put, List.setIfInBounds_toArray, List.set_cons_zero, List.set_cons_succ, i64_w, i32_w]
     rfl
    refine take_ (i := 7) (N := some 43) (v := ?_) (a' := ?_) #[true, true, true, true, true, true, false, true, true, true, true, true, false, false, false, true, true, true, false, false, false, false] rfl rfl (take_ofW HT_.out HW_.out (by kernel_rfl)) (fun _ _ _ h => h) (Or.inl ⟨by rfl, ?_⟩) hHeld ?_ ?_
    rotate_left
    ·rintro w' ⟨s0, s1, s2, s3, s4, s5⟩
     go_simp
     with_reducible rfl
    rotate_left
    ·simp only [Act.put, List.setIfInBounds_toArray, List.set_cons_zero, List.set_cons_succ, i64_w, i32_w]
     rfl
    refine take_ (i := 12) (N := some 48) (v := ?_) (a' := ?_) #[true, true, true, true, true, true, false, true, true, true, true, true, true, false, false, true, true, true, false, false, false, false] rfl rfl (take_ofW HT_.out HW_.out (by kernel_rfl)) (fun _ _ _ h => h) (Or.inl ⟨by rfl, ?_⟩) hHeld ?_ ?_
    rotate_left
    ·rintro w' ⟨s0, s1, s2, s3, s4, s5⟩
     go_simp
     with_reducible rfl
    rotate_left
    ·simp only [Act.put, List.setIfInBounds_toArray, List.set_cons_zero, List.set_cons_succ, i64_w, i32_w]
     rfl
    refine take_ (i := 14) (N := some 50) (v := ?_) (a' := ?_) #[true, true, true, true, true, true, false, true, true, true, true, true, true, false, true, true, true, true, false, false, false, false] rfl rfl (take_ofW HT_.out HW_.out (by kernel_rfl)) (fun _ _ _ h => h) (Or.inl ⟨by rfl, ?_⟩) hHeld ?_ ?_
    rotate_left
    ·rintro w' ⟨s0, s1, s2, s3, s4, s5⟩
     go_simp
     with_reducible rfl
    rotate_left
    ·simp only [Act.put, List.setIfInBounds_toArray, List.set_cons_zero, List.set_cons_succ, i64_w, i32_w]
     rfl
    refine take_ (i := 18) (N := some 54) (v := ?_) (a' := ?_) #[true, true, true, true, true, true, false, true, true, true, true, true, true, false, true, true, true, true, true, false, false, false] rfl rfl (take_ofW HT_.out HW_.out (by kernel_rfl)) (fun _ _ _ h => h) (Or.inl ⟨by rfl, ?_⟩) hHeld ?_ ?_
    rotate_left
    ·rintro w' ⟨s0, s1, s2, s3, s4, s5⟩
     go_simp
     with_reducible rfl
    rotate_left
    ·simp only [Act.put, List.setIfInBounds_toArray, List.set_cons_zero, List.set_cons_succ, i64_w, i32_w]
     rfl
    refine one_ (i := 6) (N := some 42) #[true, true, true, true, true, true, true, true, true, true, true, true, true, false, true, true, true, true, true, false, false, false] rfl rfl (one_of HT_.out (by kernel_rfl)) (by decide) (fun K hK => ?_)
    refine goes_ Try.func68 (by kernel_rfl) rfl #[.agg #[.int .i64 a0_0, .int .i64 a0_1, .slice A0_2 l0_2.length c0_2], .int .i64 (rd l2 (ji18))] (by rfl) rfl rfl zaa16 ?_
    with_reducible refine (impl_Board_at.calls a0_0 a0_1 _ _ l0_2 (rd l2 (ji18)) t575 t576 _ ?side1 ?side2 A21.out).mono ?_
    (case side1 => exact zaa7)
    (case side2 => exact HC0_2.out)
    rintro e w43 ⟨rfl, hb⟩
    refine ⟨_, rfl, ?_⟩
    have n0_ := Aside0.mk (Kd.R_below zaa10 hb)
    have n1_ := Aside0.mk (Kd.S_below zaa9 hb)
    have n2_ := Aside0.mk (blk_below (g := gb562) (o := .cells #[.int .i64 a0_0, .int .i64 a0_1, .slice A0_2 l0_2.length c0_2] 30 (0, 0)) zaa3 hb)
    have n3_ := Aside0.mk (blk_below (g := gb563) (o := .cells #[.int .i64 a1_0, .int .i64 a1_1] 32 (0, 0)) zaa4 hb)
    have n4_ := Aside0.mk (blk_below (g := gb570) (o := .cells #[.int .i64 a0_0, .int .i64 a0_1, .slice A0_2 l0_2.length c0_2, .int .i64 a1_0, .int .i64 a1_1, .slice Ao14 t564.length co14, .slice Ao15 t567.length co15] 60 (0, 0)) zaa6 hb)
    have n5_ := Aside0.mk (below_step zaa2 hb)
    clear HO_571005
    clear HO_571006
    clear BK562
    clear BK563
    clear BK570
    clear HB
    have HO_571005 := n0_
    have HO_571006 := n1_
    have BK562 := n2_
    have BK563 := n3_
    have BK570 := n4_
    have HB := n5_
    clear n0_ n1_ n2_ n3_ n4_ n5_
    (try clear hb)
    (try clear hb2)
    (try clear hk)
    (try clear hi)
    (try clear hna_)
    (try clear hnb_)
    refine hK.out _ _ ⟨(blk_cell BK562.out 0).trans rfl, (blk_cell BK562.out 1).trans rfl, (blk_cell BK562.out 2).trans rfl, ((HB.out.cell (World.block_lt_of_cell? w _ hw574_0)).trans hw574_0), ((HB.out.cell (World.block_lt_of_cell? w _ hw577_0)).trans hw577_0), ((HB.out.cell (World.block_lt_of_cell? w _ hw580_0)).trans hw580_0)⟩ (fun hHeld => ?_)
    clear hK K
    refine norm_ (a' := ?_) ?_ ?_
    rotate_left
    ·show Act.put _ (some 42) _ = _
     simp only [Act.put, List.setIfInBounds_toArray, List.set_cons_zero, List.set_cons_succ, i64_w, i32_w]
     rfl
    refine one_ (i := 13) (N := some 49) #[true, true, true, true, true, true, true, true, true, true, true, true, true, true, true, true, true, true, true, false, false, false] rfl rfl (one_of HT_.out (by kernel_rfl)) (by decide) (fun K hK => ?_)
    refine goes_ Try.func68 (by kernel_rfl) rfl #[.agg #[.int .i64 a0_0, .int .i64 a0_1, .slice A0_2 l0_2.length c0_2], .int .i64 (rd l2 (ji22))] (by rfl) rfl rfl zaa15 ?_
    with_reducible refine (impl_Board_at.calls a0_0 a0_1 _ _ l0_2 (rd l2 (ji22)) t578 t579 _ ?side1 ?side2 A25.out).mono ?_
    (case side1 => exact zaa7)
    (case side2 => exact HC0_2.out)
    rintro e w44 ⟨rfl, hb⟩
    refine ⟨_, rfl, ?_⟩
    have n0_ := Aside0.mk (Kd.R_below zaa10 hb)
    have n1_ := Aside0.mk (Kd.S_below zaa9 hb)
    have n2_ := Aside0.mk (blk_below (g := gb562) (o := .cells #[.int .i64 a0_0, .int .i64 a0_1, .slice A0_2 l0_2.length c0_2] 30 (0, 0)) zaa3 hb)
    have n3_ := Aside0.mk (blk_below (g := gb563) (o := .cells #[.int .i64 a1_0, .int .i64 a1_1] 32 (0, 0)) zaa4 hb)
    have n4_ := Aside0.mk (blk_below (g := gb570) (o := .cells #[.int .i64 a0_0, .int .i64 a0_1, .slice A0_2 l0_2.length c0_2, .int .i64 a1_0, .int .i64 a1_1, .slice Ao14 t564.length co14, .slice Ao15 t567.length co15] 60 (0, 0)) zaa6 hb)
    have n5_ := Aside0.mk (below_step zaa2 hb)
    clear HO_571005
    clear HO_571006
    clear BK562
    clear BK563
    clear BK570
    clear HB
    have HO_571005 := n0_
    have HO_571006 := n1_
    have BK562 := n2_
    have BK563 := n3_
    have BK570 := n4_
    have HB := n5_
    clear n0_ n1_ n2_ n3_ n4_ n5_
    (try clear hb)
    (try clear hb2)
    (try clear hk)
    (try clear hi)
    (try clear hna_)
    (try clear hnb_)
    refine hK.out _ _ ⟨(blk_cell BK562.out 0).trans rfl, (blk_cell BK562.out 1).trans rfl, (blk_cell BK562.out 2).trans rfl, ((HB.out.cell (World.block_lt_of_cell? w _ hw574_0)).trans hw574_0), ((HB.out.cell (World.block_lt_of_cell? w _ hw577_0)).trans hw577_0), ((HB.out.cell (World.block_lt_of_cell? w _ hw580_0)).trans hw580_0)⟩ (fun hHeld => ?_)
    clear hK K
    refine norm_ (a' := ?_) ?_ ?_
    rotate_left
    ·show Act.put _ (some 49) _ = _
     simp only [Act.put, List.setIfInBounds_toArray, List.set_cons_zero, List.set_cons_succ, i64_w, i32_w]
     rfl
    refine one_ (i := 19) (N := some 55) #[true, true, true, true, true, true, true, true, true, true, true, true, true, true, true, true, true, true, true, true, false, false] rfl rfl (one_of HT_.out (by kernel_rfl)) (by decide) (fun K hK => ?_)
    refine goes_ Try.func68 (by kernel_rfl) rfl #[.agg #[.int .i64 a0_0, .int .i64 a0_1, .slice A0_2 l0_2.length c0_2], .int .i64 (rd l2 x15_1)] (by rfl) rfl rfl zaa8 ?_
    with_reducible refine (impl_Board_at.calls a0_0 a0_1 _ _ l0_2 (rd l2 x15_1) t581 t582 _ ?side1 ?side2 A27.out).mono ?_
    (case side1 => exact zaa7)
    (case side2 => exact HC0_2.out)
    rintro e w45 ⟨rfl, hb⟩
    refine ⟨_, rfl, ?_⟩
    have n0_ := Aside0.mk (Kd.R_below zaa10 hb)
    have n1_ := Aside0.mk (Kd.S_below zaa9 hb)
    have n2_ := Aside0.mk (blk_below (g := gb562) (o := .cells #[.int .i64 a0_0, .int .i64 a0_1, .slice A0_2 l0_2.length c0_2] 30 (0, 0)) zaa3 hb)
    have n3_ := Aside0.mk (blk_below (g := gb563) (o := .cells #[.int .i64 a1_0, .int .i64 a1_1] 32 (0, 0)) zaa4 hb)
    have n4_ := Aside0.mk (blk_below (g := gb570) (o := .cells #[.int .i64 a0_0, .int .i64 a0_1, .slice A0_2 l0_2.length c0_2, .int .i64 a1_0, .int .i64 a1_1, .slice Ao14 t564.length co14, .slice Ao15 t567.length co15] 60 (0, 0)) zaa6 hb)
    have n5_ := Aside0.mk (below_step zaa2 hb)
    clear HO_571005
    clear HO_571006
    clear BK562
    clear BK563
    clear BK570
    clear HB
    have HO_571005 := n0_
    have HO_571006 := n1_
    have BK562 := n2_
    have BK563 := n3_
    have BK570 := n4_
    have HB := n5_
    clear n0_ n1_ n2_ n3_ n4_ n5_
    (try clear hb)
    (try clear hb2)
    (try clear hk)
    (try clear hi)
    (try clear hna_)
    (try clear hnb_)
    refine hK.out _ _ ⟨(blk_cell BK562.out 0).trans rfl, (blk_cell BK562.out 1).trans rfl, (blk_cell BK562.out 2).trans rfl, ((HB.out.cell (World.block_lt_of_cell? w _ hw574_0)).trans hw574_0), ((HB.out.cell (World.block_lt_of_cell? w _ hw577_0)).trans hw577_0), ((HB.out.cell (World.block_lt_of_cell? w _ hw580_0)).trans hw580_0)⟩ (fun hHeld => ?_)
    clear hK K
    refine norm_ (a' := ?_) ?_ ?_
    rotate_left
    ·show Act.put _ (some 55) _ = _
     simp only [Act.put, List.setIfInBounds_toArray, List.set_cons_zero, List.set_cons_succ, i64_w, i32_w]
     rfl
    refine one_ (i := 20) (N := some 56) #[true, true, true, true, true, true, true, true, true, true, true, true, true, true, true, true, true, true, true, true, true, false] rfl rfl (one_of HT_.out (by kernel_rfl)) (by decide) (fun K hK => ?_)
    refine goes_ Try.func67 (by kernel_rfl) rfl #[.agg #[.int .i64 t575, .int .i64 t576], .agg #[.int .i64 t578, .int .i64 t579], .agg #[.int .i64 t581, .int .i64 t582]] (by rfl) rfl rfl zaa8 ?_
    with_reducible refine (impl_turn.calls t575 t576 t578 t579 t581 t582 t583 _ A28.out).mono ?_
    rintro e w46 ⟨rfl, hb⟩
    refine ⟨_, rfl, ?_⟩
    have n0_ := Aside0.mk (Kd.R_below zaa10 hb)
    have n1_ := Aside0.mk (Kd.S_below zaa9 hb)
    have n2_ := Aside0.mk (blk_below (g := gb562) (o := .cells #[.int .i64 a0_0, .int .i64 a0_1, .slice A0_2 l0_2.length c0_2] 30 (0, 0)) zaa3 hb)
    have n3_ := Aside0.mk (blk_below (g := gb563) (o := .cells #[.int .i64 a1_0, .int .i64 a1_1] 32 (0, 0)) zaa4 hb)
    have n4_ := Aside0.mk (blk_below (g := gb570) (o := .cells #[.int .i64 a0_0, .int .i64 a0_1, .slice A0_2 l0_2.length c0_2, .int .i64 a1_0, .int .i64 a1_1, .slice Ao14 t564.length co14, .slice Ao15 t567.length co15] 60 (0, 0)) zaa6 hb)
    have n5_ := Aside0.mk (below_step zaa2 hb)
    clear HO_571005
    clear HO_571006
    clear BK562
    clear BK563
    clear BK570
    clear HB
    have HO_571005 := n0_
    have HO_571006 := n1_
    have BK562 := n2_
    have BK563 := n3_
    have BK570 := n4_
    have HB := n5_
    clear n0_ n1_ n2_ n3_ n4_ n5_
    (try clear hb)
    (try clear hb2)
    (try clear hk)
    (try clear hi)
    (try clear hna_)
    (try clear hnb_)
    refine hK.out _ _ ⟨(blk_cell BK562.out 0).trans rfl, (blk_cell BK562.out 1).trans rfl, (blk_cell BK562.out 2).trans rfl, ((HB.out.cell (World.block_lt_of_cell? w _ hw574_0)).trans hw574_0), ((HB.out.cell (World.block_lt_of_cell? w _ hw577_0)).trans hw577_0), ((HB.out.cell (World.block_lt_of_cell? w _ hw580_0)).trans hw580_0)⟩ (fun hHeld => ?_)
    clear hK K
    refine norm_ (a' := ?_) ?_ ?_
    rotate_left
    ·show Act.put _ (some 56) _ = _
     simp only [Act.put, List.setIfInBounds_toArray, List.set_cons_zero, List.set_cons_succ, i64_w, i32_w]
     rfl
    refine one_ (i := 21) (N := some 57) #[true, true, true, true, true, true, true, true, true, true, true, true, true, true, true, true, true, true, true, true, true, true] rfl rfl (one_of HT_.out (by kernel_rfl)) (by decide) (fun K hK => ?_)
    refine goes_ Try.func66 (by kernel_rfl) rfl #[.int .i64 t583] (by rfl) rfl rfl zaa8 ?_
    with_reducible refine (impl_sign.calls t583 t584 _ A29.out).mono ?_
    rintro e w' ⟨rfl, ⟨nd, rfl⟩⟩
    refine ⟨_, rfl, ?_⟩
    refine hK.out _ _ ⟨(blk_cell BK562.out 0).trans rfl, (blk_cell BK562.out 1).trans rfl, (blk_cell BK562.out 2).trans rfl, ((HB.out.cell (World.block_lt_of_cell? w _ hw574_0)).trans hw574_0), ((HB.out.cell (World.block_lt_of_cell? w _ hw577_0)).trans hw577_0), ((HB.out.cell (World.block_lt_of_cell? w _ hw580_0)).trans hw580_0)⟩ (fun hHeld => ?_)
    clear hK K
    refine norm_ (a' := ?_) ?_ ?_
    rotate_left
    ·show Act.put _ (some 57) _ = _
     simp only [Act.put, List.setIfInBounds_toArray, List.set_cons_zero, List.set_cons_succ, i64_w, i32_w]
     rfl
    refine done_ (done_of HT_.out (by kernel_rfl)) ?_
    try go_wp2
    go_roundg k1
    case measure => have := HK1.out; omega
    case rel => exact ⟨(x12_1), (x13_1), (wrap64 (x14_1 + 1)), (wrap64 (x15_1 + 1)), zaa14, zaa14, zaa14, zaa14, H', ⟨by have := HK1.out; omega⟩, ⟨zaa10⟩, ⟨zaa9⟩, ⟨zaa3⟩, ⟨zaa4⟩, ⟨zaa6⟩, ⟨zaa2⟩⟩
   rw [if_pos c36] at H
   have c36b0 : (t584 == 0) = true := beq_iff_eq.mpr c36
   have c36b1 : (t584 != 0) = false := bne_eq_false_iff_eq.mpr c36
   clear c36
   have H' := Aside0.mk H
   clear H
   try go_wp2
   have n0_ := Aside0.mk (Kd.R_drew HO_571005.out)
   have n1_ := Aside0.mk (Kd.S_drew HO_571006.out)
   have n2_ := Aside0.mk (blk_drew BK562.out)
   have n3_ := Aside0.mk (blk_drew BK563.out)
   have n4_ := Aside0.mk (blk_drew BK570.out)
   have n5_ := Aside0.mk (below_drew1 HB.out)
   clear HO_571005
   clear HO_571006
   clear BK562
   clear BK563
   clear BK570
   clear HB
   have HO_571005 := n0_
   have HO_571006 := n1_
   have BK562 := n2_
   have BK563 := n3_
   have BK570 := n4_
   have HB := n5_
   clear n0_ n1_ n2_ n3_ n4_ n5_
   have p574 : 0 ≤ ((ji18) : Int) := of_decide_eq_true zaa13
   have q574 : (ji18) < (l2.length : Int) := of_decide_eq_true zaa13
   obtain ⟨ad574, e574, hx574_0⟩ := Kd.at_int HR2.out (ji18) p574 q574
   have hw574_0 := hx574_0
   cases e574
   (first | replace hx574_0 := (HB.out.cell (World.block_lt_of_cell? w _ hx574_0)).trans hx574_0 | skip)
   replace p574 := eq_true p574
   replace q574 := eq_true q574
   have p577 : 0 ≤ ((ji22) : Int) := of_decide_eq_true zaa13
   have q577 : (ji22) < (l2.length : Int) := of_decide_eq_true zaa13
   obtain ⟨ad577, e577, hx577_0⟩ := Kd.at_int HR2.out (ji22) p577 q577
   have hw577_0 := hx577_0
   obtain rfl : ad574 = ad577 := (by injection e577)
   (first | replace hx577_0 := (HB.out.cell (World.block_lt_of_cell? w _ hx577_0)).trans hx577_0 | skip)
   replace p577 := eq_true p577
   replace q577 := eq_true q577
   have p580 : 0 ≤ (x15_1 : Int) := of_decide_eq_true zaa13
   have q580 : x15_1 < (l2.length : Int) := of_decide_eq_true zaa13
   obtain ⟨ad580, e580, hx580_0⟩ := Kd.at_int HR2.out x15_1 p580 q580
   have hw580_0 := hx580_0
   obtain rfl : ad574 = ad580 := (by injection e580)
   (first | replace hx580_0 := (HB.out.cell (World.block_lt_of_cell? w _ hx580_0)).trans hx580_0 | skip)
   replace p580 := eq_true p580
   replace q580 := eq_true q580
   refine start_ (n := 22) (S := fun w' => w'.cell? ⟨gb562, 0, none⟩ = some (.int .i64 a0_0) ∧ w'.cell? ⟨gb562, 1, none⟩ = some (.int .i64 a0_1) ∧ w'.cell? ⟨gb562, 2, none⟩ = some (.slice A0_2 l0_2.length c0_2) ∧ w'.cell? (ad574.add ((ji18)).toNat) = some (.int .i64 (rd l2 (ji18))) ∧ w'.cell? (ad574.add ((ji22)).toNat) = some (.int .i64 (rd l2 (ji22))) ∧ w'.cell? (ad574.add (x15_1).toNat) = some (.int .i64 (rd l2 x15_1))) (ds := []) #[false, false, false, false, false, false, false, false, false, false, false, false, false, false, false, false, false, false, false, false, false, false] (by kernel_rfl) rfl rfl ⟨(blk_cell BK562.out 0).trans rfl, (blk_cell BK562.out 1).trans rfl, (blk_cell BK562.out 2).trans rfl, ((HB.out.cell (World.block_lt_of_cell? w _ hw574_0)).trans hw574_0), ((HB.out.cell (World.block_lt_of_cell? w _ hw577_0)).trans hw577_0), ((HB.out.cell (World.block_lt_of_cell? w _ hw580_0)).trans hw580_0)⟩ (fun hHeld => ?_); refine with_tabW impl_TurnsOfPath.tab8 impl_TurnsOfPath.bits8 (fun HT_ HW_ => ?_)
   generalize wr.drew = w37 at HO_571005 HO_571006 BK562 BK563 BK570 HB hx574_0 hx577_0 hx580_0 hHeld ⊢
   refine pure_ (i := 1) (N := some 37) (v := ?_) (a' := ?_) #[false, true, false, false, false, false, false, false, false, false, false, false, false, false, false, false, false, false, false, false, false, false] rfl rfl (any_of HT_.out (by kernel_rfl)) (fun _ _ _ h => h) (Or.inl ⟨by rfl, ?_⟩) ?_ ?_
   rotate_left
   ·intro w'
    go_simp
    with_reducible rfl
   rotate_left
   ·simp only [Act.put, List.setIfInBounds_toArray, List.set_cons_zero, List.set_cons_succ, i64_w, i32_w]
    rfl
   refine pure_ (i := 2) (N := some 38) (v := ?_) (a' := ?_) #[false, true, true, false, false, false, false, false, false, false, false, false, false, false, false, false, false, false, false, false, false, false] rfl rfl (any_of HT_.out (by kernel_rfl)) (fun _ _ _ h => h) (Or.inl ⟨by rfl, ?_⟩) ?_ ?_
   rotate_left
   ·intro w'
    go_simp
    with_reducible rfl
   rotate_left
   ·simp only [Act.put, List.setIfInBounds_toArray, List.set_cons_zero, List.set_cons_succ, i64_w, i32_w]
    rfl
   refine pure_ (i := 3) (N := some 39) (v := ?_) (a' := ?_) #[false, true, true, true, false, false, false, false, false, false, false, false, false, false, false, false, false, false, false, false, false, false] rfl rfl (any_of HT_.out (by kernel_rfl)) (fun _ _ _ h => h) (Or.inl ⟨by rfl, ?_⟩) ?_ ?_
   rotate_left
   ·intro w'
    go_simp
    with_reducible rfl
   rotate_left
   ·simp only [Act.put, List.setIfInBounds_toArray, List.set_cons_zero, List.set_cons_succ, i64_w, i32_w]
    rfl
   refine pure_ (i := 4) (N := some 40) (v := ?_) (a' := ?_) #[false, true, true, true, true, false, false, false, false, false, false, false, false, false, false, false, false, false, false, false, false, false] rfl rfl (any_of HT_.out (by kernel_rfl)) (fun _ _ _ h => h) (Or.inl ⟨by rfl, ?_⟩) ?_ ?_
   rotate_left
   ·intro w'
    go_simp
    with_reducible rfl
   rotate_left
   ·simp only [Act.put, List.setIfInBounds_toArray, List.set_cons_zero, List.set_cons_succ, i64_w, i32_w]
    rfl
   refine pure_ (i := 8) (N := some 44) (v := ?_) (a' := ?_) #[false, true, true, true, true, false, false, false, true, false, false, false, false, false, false, false, false, false, false, false, false, false] rfl rfl (any_of HT_.out (by kernel_rfl)) (fun _ _ _ h => h) (Or.inl ⟨by rfl, ?_⟩) ?_ ?_
   rotate_left
   ·intro w'
    go_simp
    with_reducible rfl
   rotate_left
   ·simp only [Act.put, List.setIfInBounds_toArray, List.set_cons_zero, List.set_cons_succ, i64_w, i32_w]
    rfl
   refine pure_ (i := 9) (N := some 45) (v := ?_) (a' := ?_) #[false, true, true, true, true, false, false, false, true, true, false, false, false, false, false, false, false, false, false, false, false, false] rfl rfl (any_of HT_.out (by kernel_rfl)) (fun _ _ _ h => h) (Or.inl ⟨by rfl, ?_⟩) ?_ ?_
   rotate_left
   ·intro w'
    go_simp
    with_reducible rfl
   rotate_left
   ·simp only [Act.put, List.setIfInBounds_toArray, List.set_cons_zero, List.set_cons_succ, i64_w, i32_w]
    rfl
   refine pure_ (i := 10) (N := some 46) (v := ?_) (a' := ?_) #[false, true, true, true, true, false, false, false, true, true, true, false, false, false, false, false, false, false, false, false, false, false] rfl rfl (any_of HT_.out (by kernel_rfl)) (fun _ _ _ h => h) (Or.inl ⟨by rfl, ?_⟩) ?_ ?_
   rotate_left
   ·intro w'
    go_simp
    with_reducible rfl
   rotate_left
   ·simp only [Act.put, List.setIfInBounds_toArray, List.set_cons_zero, List.set_cons_succ, i64_w, i32_w]
    rfl
   refine pure_ (i := 11) (N := some 47) (v := ?_) (a' := ?_) #[false, true, true, true, true, false, false, false, true, true, true, true, false, false, false, false, false, false, false, false, false, false] rfl rfl (any_of HT_.out (by kernel_rfl)) (fun _ _ _ h => h) (Or.inl ⟨by rfl, ?_⟩) ?_ ?_
   rotate_left
   ·intro w'
    go_simp
    with_reducible rfl
   rotate_left
   ·simp only [Act.put, List.setIfInBounds_toArray, List.set_cons_zero, List.set_cons_succ, i64_w, i32_w]
    rfl
   refine pure_ (i := 15) (N := some 51) (v := ?_) (a' := ?_) #[false, true, true, true, true, false, false, false, true, true, true, true, false, false, false, true, false, false, false, false, false, false] rfl rfl (any_of HT_.out (by kernel_rfl)) (fun _ _ _ h => h) (Or.inl ⟨by rfl, ?_⟩) ?_ ?_
   rotate_left
   ·intro w'
    go_simp
    with_reducible rfl
   rotate_left
   ·simp only [Act.put, List.setIfInBounds_toArray, List.set_cons_zero, List.set_cons_succ, i64_w, i32_w]
    rfl
   refine pure_ (i := 16) (N := some 52) (v := ?_) (a' := ?_) #[false, true, true, true, true, false, false, false, true, true, true, true, false, false, false, true, true, false, false, false, false, false] rfl rfl (any_of HT_.out (by kernel_rfl)) (fun _ _ _ h => h) (Or.inl ⟨by rfl, ?_⟩) ?_ ?_
   rotate_left
   ·intro w'
    go_simp
    with_reducible rfl
   rotate_left
   ·simp only [Act.put, List.setIfInBounds_toArray, List.set_cons_zero, List.set_cons_succ, i64_w, i32_w]
    rfl
   refine pure_ (i := 17) (N := some 53) (v := ?_) (a' := ?_) #[false, true, true, true, true, false, false, false, true, true, true, true, false, false, false, true, true, true, false, false, false, false] rfl rfl (any_of HT_.out (by kernel_rfl)) (fun _ _ _ h => h) (Or.inl ⟨by rfl, ?_⟩) ?_ ?_
   rotate_left
   ·intro w'
    go_simp
    with_reducible rfl
   rotate_left
   ·simp only [Act.put, List.setIfInBounds_toArray, List.set_cons_zero, List.set_cons_succ, i64_w, i32_w]
    rfl
   refine take_ (i := 0) (N := some 36) (v := ?_) (a' := ?_) #[true, true, true, true, true, false, false, false, true, true, true, true, false, false, false, true, true, true, false, false, false, false] rfl rfl (take_ofW HT_.out HW_.out (by kernel_rfl)) (fun _ _ _ h => h) (Or.inl ⟨by rfl, ?_⟩) hHeld ?_ ?_
   rotate_left
   ·rintro w' ⟨s0, s1, s2, s3, s4, s5⟩
    go_simp
    with_reducible rfl
   rotate_left
   ·simp only [Act.put, List.setIfInBounds_toArray, List.set_cons_zero, List.set_cons_succ, i64_w, i32_w]
    rfl
   refine take_ (i := 5) (N := some 41) (v := ?_) (a' := ?_) #[true, true, true, true, true, true, false, false, true, true, true, true, false, false, false, true, true, true, false, false, false, false] rfl rfl (take_ofW HT_.out HW_.out (by kernel_rfl)) (fun _ _ _ h => h) (Or.inl ⟨by rfl, ?_⟩) hHeld ?_ ?_
   rotate_left
   ·rintro w' ⟨s0, s1, s2, s3, s4, s5⟩
    go_simp
    with_reducible rfl
   rotate_left
   ·simp only [Act.put, List.setIfInBounds_toArray, List.set_cons_zero, List.set_cons_succ, i64_w, i32_w]
    rfl
   refine take_ (i := 7) (N := some 43) (v := ?_) (a' := ?_) #[true, true, true, true, true, true, false, true, true, true, true, true, false, false, false, true, true, true, false, false, false, false] rfl rfl (take_ofW HT_.out HW_.out (by kernel_rfl)) (fun _ _ _ h => h) (Or.inl ⟨by rfl, ?_⟩) hHeld ?_ ?_
   rotate_left
   ·rintro w' ⟨s0, s1, s2, s3, s4, s5⟩
    go_simp
    with_reducible rfl
   rotate_left
   ·simp only [Act.put, List.setIfInBounds_toArray, List.set_cons_zero, List.set_cons_succ, i64_w, i32_w]
    rfl
   refine take_ (i := 12) (N := some 48) (v := ?_) (a' := ?_) #[true, true, true, true, true, true, false, true, true, true, true, true, true, false, false, true, true, true, false, false, false, false] rfl rfl (take_ofW HT_.out HW_.out (by kernel_rfl)) (fun _ _ _ h => h) (Or.inl ⟨by rfl, ?_⟩) hHeld ?_ ?_
   rotate_left
   ·rintro w' ⟨s0, s1, s2, s3, s4, s5⟩
    go_simp
    with_reducible rfl
   rotate_left
   ·simp only [Act.put, List.setIfInBounds_toArray, List.set_cons_zero, List.set_cons_succ, i64_w, i32_w]
    rfl
   refine take_ (i := 14) (N := some 50) (v := ?_) (a' := ?_) #[true, true, true, true, true, true, false, true, true, true, true, true, true, false, true, true, true, true, false, false, false, false] rfl rfl (take_ofW HT_.out HW_.out (by kernel_rfl)) (fun _ _ _ h => h) (Or.inl ⟨by rfl, ?_⟩) hHeld ?_ ?_
   rotate_left
   ·rintro w' ⟨s0, s1, s2, s3, s4, s5⟩
    go_simp
    with_reducible rfl
   rotate_left
   ·simp only [Act.put, List.setIfInBounds_toArray, List.set_cons_zero, List.set_cons_succ, i64_w, i32_w]
    rfl
   refine take_ (i := 18) (N := some 54) (v := ?_) (a' := ?_) #[true, true, true, true, true, true, false, true, true, true, true, true, true, false, true, true, true, true, true, false, false, false] rfl rfl (take_ofW HT_.out HW_.out (by kernel_rfl)) (fun _ _ _ h => h) (Or.inl ⟨by rfl, ?_⟩) hHeld ?_ ?_
   rotate_left
   ·rintro w' ⟨s0, s1, s2, s3, s4, s5⟩
    go_simp
    with_reducible rfl
   rotate_left
   ·simp only [Act.put, List.setIfInBounds_toArray, List.set_cons_zero, List.set_cons_succ, i64_w, i32_w]
    rfl
   refine one_ (i := 6) (N := some 42) #[true, true, true, true, true, true, true, true, true, true, true, true, true, false, true, true, true, true, true, false, false, false] rfl rfl (one_of HT_.out (by kernel_rfl)) (by decide) (fun K hK => ?_)
   refine goes_ Try.func68 (by kernel_rfl) rfl #[.agg #[.int .i64 a0_0, .int .i64 a0_1, .slice A0_2 l0_2.length c0_2], .int .i64 (rd l2 (ji18))] (by rfl) rfl rfl zaa16 ?_
   with_reducible refine (impl_Board_at.calls a0_0 a0_1 _ _ l0_2 (rd l2 (ji18)) t575 t576 _ ?side1 ?side2 A21.out).mono ?_
   (case side1 => exact zaa7)
   (case side2 => exact HC0_2.out)
   rintro e w38 ⟨rfl, hb⟩
   refine ⟨_, rfl, ?_⟩
   have n0_ := Aside0.mk (Kd.R_below zaa10 hb)
   have n1_ := Aside0.mk (Kd.S_below zaa9 hb)
   have n2_ := Aside0.mk (blk_below (g := gb562) (o := .cells #[.int .i64 a0_0, .int .i64 a0_1, .slice A0_2 l0_2.length c0_2] 30 (0, 0)) zaa3 hb)
   have n3_ := Aside0.mk (blk_below (g := gb563) (o := .cells #[.int .i64 a1_0, .int .i64 a1_1] 32 (0, 0)) zaa4 hb)
   have n4_ := Aside0.mk (blk_below (g := gb570) (o := .cells #[.int .i64 a0_0, .int .i64 a0_1, .slice A0_2 l0_2.length c0_2, .int .i64 a1_0, .int .i64 a1_1, .slice Ao14 t564.length co14, .slice Ao15 t567.length co15] 60 (0, 0)) zaa6 hb)
   have n5_ := Aside0.mk (below_step zaa2 hb)
   clear HO_571005
   clear HO_571006
   clear BK562
   clear BK563
   clear BK570
   clear HB
   have HO_571005 := n0_
   have HO_571006 := n1_
   have BK562 := n2_
   have BK563 := n3_
   have BK570 := n4_
   have HB := n5_
   clear n0_ n1_ n2_ n3_ n4_ n5_
   (try clear hb)
   (try clear hb2)
   (try clear hk)
   (try clear hi)
   (try clear hna_)
   (try clear hnb_)
   refine hK.out _ _ ⟨(blk_cell BK562.out 0).trans rfl, (blk_cell BK562.out 1).trans rfl, (blk_cell BK562.out 2).trans rfl, ((HB.out.cell (World.block_lt_of_cell? w _ hw574_0)).trans hw574_0), ((HB.out.cell (World.block_lt_of_cell? w _ hw577_0)).trans hw577_0), ((HB.out.cell (World.block_lt_of_cell? w _ hw580_0)).trans hw580_0)⟩ (fun hHeld => ?_)
   clear hK K
   refine norm_ (a' := ?_) ?_ ?_
   rotate_left
   ·show Act.put _ (some 42) _ = _
    simp only [Act.put, List.setIfInBounds_toArray, List.set_cons_zero, List.set_cons_succ, i64_w, i32_w]
    rfl
   refine one_ (i := 13) (N := some 49) #[true, true, true, true, true, true, true, true, true, true, true, true, true, true, true, true, true, true, true, false, false, false] rfl rfl (one_of HT_.out (by kernel_rfl)) (by decide) (fun K hK => ?_)
   refine goes_ Try.func68 (by kernel_rfl) rfl #[.agg #[.int .i64 a0_0, .int .i64 a0_1, .slice A0_2 l0_2.length c0_2], .int .i64 (rd l2 (ji22))] (by rfl) rfl rfl zaa15 ?_
   with_reducible refine (impl_Board_at.calls a0_0 a0_1 _ _ l0_2 (rd l2 (ji22)) t578 t579 _ ?side1 ?side2 A25.out).mono ?_
   (case side1 => exact zaa7)
   (case side2 => exact HC0_2.out)
   rintro e w39 ⟨rfl, hb⟩
   refine ⟨_, rfl, ?_⟩
   have n0_ := Aside0.mk (Kd.R_below zaa10 hb)
   have n1_ := Aside0.mk (Kd.S_below zaa9 hb)
   have n2_ := Aside0.mk (blk_below (g := gb562) (o := .cells #[.int .i64 a0_0, .int .i64 a0_1, .slice A0_2 l0_2.length c0_2] 30 (0, 0)) zaa3 hb)
   have n3_ := Aside0.mk (blk_below (g := gb563) (o := .cells #[.int .i64 a1_0, .int .i64 a1_1] 32 (0, 0)) zaa4 hb)
   have n4_ := Aside0.mk (blk_below (g := gb570) (o := .cells #[.int .i64 a0_0, .int .i64 a0_1, .slice A0_2 l0_2.length c0_2, .int .i64 a1_0, .int .i64 a1_1, .slice Ao14 t564.length co14, .slice Ao15 t567.length co15] 60 (0, 0)) zaa6 hb)
   have n5_ := Aside0.mk (below_step zaa2 hb)
   clear HO_571005
   clear HO_571006
   clear BK562
   clear BK563
   clear BK570
   clear HB
   have HO_571005 := n0_
   have HO_571006 := n1_
   have BK562 := n2_
   have BK563 := n3_
   have BK570 := n4_
   have HB := n5_
   clear n0_ n1_ n2_ n3_ n4_ n5_
   (try clear hb)
   (try clear hb2)
   (try clear hk)
   (try clear hi)
   (try clear hna_)
   (try clear hnb_)
   refine hK.out _ _ ⟨(blk_cell BK562.out 0).trans rfl, (blk_cell BK562.out 1).trans rfl, (blk_cell BK562.out 2).trans rfl, ((HB.out.cell (World.block_lt_of_cell? w _ hw574_0)).trans hw574_0), ((HB.out.cell (World.block_lt_of_cell? w _ hw577_0)).trans hw577_0), ((HB.out.cell (World.block_lt_of_cell? w _ hw580_0)).trans hw580_0)⟩ (fun hHeld => ?_)
   clear hK K
   refine norm_ (a' := ?_) ?_ ?_
   rotate_left
   ·show Act.put _ (some 49) _ = _
    simp only [Act.put, List.setIfInBounds_toArray, List.set_cons_zero, List.set_cons_succ, i64_w, i32_w]
    rfl
   refine one_ (i := 19) (N := some 55) #[true, true, true, true, true, true, true, true, true, true, true, true, true, true, true, true, true, true, true, true, false, false] rfl rfl (one_of HT_.out (by kernel_rfl)) (by decide) (fun K hK => ?_)
   refine goes_ Try.func68 (by kernel_rfl) rfl #[.agg #[.int .i64 a0_0, .int .i64 a0_1, .slice A0_2 l0_2.length c0_2], .int .i64 (rd l2 x15_1)] (by rfl) rfl rfl zaa8 ?_
   with_reducible refine (impl_Board_at.calls a0_0 a0_1 _ _ l0_2 (rd l2 x15_1) t581 t582 _ ?side1 ?side2 A27.out).mono ?_
   (case side1 => exact zaa7)
   (case side2 => exact HC0_2.out)
   rintro e w40 ⟨rfl, hb⟩
   refine ⟨_, rfl, ?_⟩
   have n0_ := Aside0.mk (Kd.R_below zaa10 hb)
   have n1_ := Aside0.mk (Kd.S_below zaa9 hb)
   have n2_ := Aside0.mk (blk_below (g := gb562) (o := .cells #[.int .i64 a0_0, .int .i64 a0_1, .slice A0_2 l0_2.length c0_2] 30 (0, 0)) zaa3 hb)
   have n3_ := Aside0.mk (blk_below (g := gb563) (o := .cells #[.int .i64 a1_0, .int .i64 a1_1] 32 (0, 0)) zaa4 hb)
   have n4_ := Aside0.mk (blk_below (g := gb570) (o := .cells #[.int .i64 a0_0, .int .i64 a0_1, .slice A0_2 l0_2.length c0_2, .int .i64 a1_0, .int .i64 a1_1, .slice Ao14 t564.length co14, .slice Ao15 t567.length co15] 60 (0, 0)) zaa6 hb)
   have n5_ := Aside0.mk (below_step zaa2 hb)
   clear HO_571005
   clear HO_571006
   clear BK562
   clear BK563
   clear BK570
   clear HB
   have HO_571005 := n0_
   have HO_571006 := n1_
   have BK562 := n2_
   have BK563 := n3_
   have BK570 := n4_
   have HB := n5_
   clear n0_ n1_ n2_ n3_ n4_ n5_
   (try clear hb)
   (try clear hb2)
   (try clear hk)
   (try clear hi)
   (try clear hna_)
   (try clear hnb_)
   refine hK.out _ _ ⟨(blk_cell BK562.out 0).trans rfl, (blk_cell BK562.out 1).trans rfl, (blk_cell BK562.out 2).trans rfl, ((HB.out.cell (World.block_lt_of_cell? w _ hw574_0)).trans hw574_0), ((HB.out.cell (World.block_lt_of_cell? w _ hw577_0)).trans hw577_0), ((HB.out.cell (World.block_lt_of_cell? w _ hw580_0)).trans hw580_0)⟩ (fun hHeld => ?_)
   clear hK K
   refine norm_ (a' := ?_) ?_ ?_
   rotate_left
   ·show Act.put _ (some 55) _ = _
    simp only [Act.put, List.setIfInBounds_toArray, List.set_cons_zero, List.set_cons_succ, i64_w, i32_w]
    rfl
   refine one_ (i := 20) (N := some 56) #[true, true, true, true, true, true, true, true, true, true, true, true, true, true, true, true, true, true, true, true, true, false] rfl rfl (one_of HT_.out (by kernel_rfl)) (by decide) (fun K hK => ?_)
   refine goes_ Try.func67 (by kernel_rfl) rfl #[.agg #[.int .i64 t575, .int .i64 t576], .agg #[.int .i64 t578, .int .i64 t579], .agg #[.int .i64 t581, .int .i64 t582]] (by rfl) rfl rfl zaa8 ?_
   with_reducible refine (impl_turn.calls t575 t576 t578 t579 t581 t582 t583 _ A28.out).mono ?_
   rintro e w41 ⟨rfl, hb⟩
   refine ⟨_, rfl, ?_⟩
   have n0_ := Aside0.mk (Kd.R_below zaa10 hb)
   have n1_ := Aside0.mk (Kd.S_below zaa9 hb)
   have n2_ := Aside0.mk (blk_below (g := gb562) (o := .cells #[.int .i64 a0_0, .int .i64 a0_1, .slice A0_2 l0_2.length c0_2] 30 (0, 0)) zaa3 hb)
   have n3_ := Aside0.mk (blk_below (g := gb563) (o := .cells #[.int .i64 a1_0, .int .i64 a1_1] 32 (0, 0)) zaa4 hb)
   have n4_ := Aside0.mk (blk_below (g := gb570) (o := .cells #[.int .i64 a0_0, .int .i64 a0_1, .slice A0_2 l0_2.length c0_2, .int .i64 a1_0, .int .i64 a1_1, .slice Ao14 t564.length co14, .slice Ao15 t567.length co15] 60 (0, 0)) zaa6 hb)
   have n5_ := Aside0.mk (below_step zaa2 hb)
   clear HO_571005
   clear HO_571006
   clear BK562
   clear BK563
   clear BK570
   clear HB
   have HO_571005 := n0_
   have HO_571006 := n1_
   have BK562 := n2_
   have BK563 := n3_
   have BK570 := n4_
   have HB := n5_
   clear n0_ n1_ n2_ n3_ n4_ n5_
   (try clear hb)
   (try clear hb2)
   (try clear hk)
   (try clear hi)
   (try clear hna_)
   (try clear hnb_)
   refine hK.out _ _ ⟨(blk_cell BK562.out 0).trans rfl, (blk_cell BK562.out 1).trans rfl, (blk_cell BK562.out 2).trans rfl, ((HB.out.cell (World.block_lt_of_cell? w _ hw574_0)).trans hw574_0), ((HB.out.cell (World.block_lt_of_cell? w _ hw577_0)).trans hw577_0), ((HB.out.cell (World.block_lt_of_cell? w _ hw580_0)).trans hw580_0)⟩ (fun hHeld => ?_)
   clear hK K
   refine norm_ (a' := ?_) ?_ ?_
   rotate_left
   ·show Act.put _ (some 56) _ = _
    simp only [Act.put, List.setIfInBounds_toArray, List.set_cons_zero, List.set_cons_succ, i64_w, i32_w]
    rfl
   refine one_ (i := 21) (N := some 57) #[true, true, true, true, true, true, true, true, true, true, true, true, true, true, true, true, true, true, true, true, true, true] rfl rfl (one_of HT_.out (by kernel_rfl)) (by decide) (fun K hK => ?_)
   refine goes_ Try.func66 (by kernel_rfl) rfl #[.int .i64 t583] (by rfl) rfl rfl zaa8 ?_
   with_reducible refine (impl_sign.calls t583 t584 _ A29.out).mono ?_
   rintro e w' ⟨rfl, ⟨nd, rfl⟩⟩
   refine ⟨_, rfl, ?_⟩
   refine hK.out _ _ ⟨(blk_cell BK562.out 0).trans rfl, (blk_cell BK562.out 1).trans rfl, (blk_cell BK562.out 2).trans rfl, ((HB.out.cell (World.block_lt_of_cell? w _ hw574_0)).trans hw574_0), ((HB.out.cell (World.block_lt_of_cell? w _ hw577_0)).trans hw577_0), ((HB.out.cell (World.block_lt_of_cell? w _ hw580_0)).trans hw580_0)⟩ (fun hHeld => ?_)
   clear hK K
   refine norm_ (a' := ?_) ?_ ?_
   rotate_left
   ·show Act.put _ (some 57) _ = _
    simp only [Act.put, List.setIfInBounds_toArray, List.set_cons_zero, List.set_cons_succ, i64_w, i32_w]
    rfl
   refine done_ (done_of HT_.out (by kernel_rfl)) ?_
   try go_wp2
   go_roundg k1
   case measure => have := HK1.out; omega
   case rel => exact ⟨(x12_1), (wrap64 (x13_1 + 1)), (x14_1), (wrap64 (x15_1 + 1)), zaa14, zaa14, zaa14, zaa14, H', ⟨by have := HK1.out; omega⟩, ⟨zaa10⟩, ⟨zaa9⟩, ⟨zaa3⟩, ⟨zaa4⟩, ⟨zaa6⟩, ⟨zaa2⟩⟩

end Go.Proofs.Ythoklbeenjppbaa.Q

/- Written by a program of this session: functions of the translation as plain Lean functions, each with a proof that the call does what the plain function says; the conditions stand in each theorem. -/
import Derived.Test.YtjeongckkfkehaaQ0
import Derived.Test.YtjeongckkfkehaaQ10
import Derived.Test.YtjeongckkfkehaaQ19
namespace Go.Proofs.Ytjeongckkfkehaa.Q
open Go.RowKit Go.Proofs.YtjeongckkfkehaaW.PrintWords Go.Proofs.YtjeongckkfkehaaW.PrintLast Go.Proofs.YtjeongckkfkehaaW.PrintMore
attribute [local go_sem] max2_int min2_int max_two min_two max_three min_three max_four min_four   -- for this text's walks alone
set_option linter.unusedVariables false
set_option linter.unusedSimpArgs false

theorem zac1 {p : Prop} (h : p := by repeat (first | (with_reducible first | exact HB.out | apply below_alloc | apply pw_below_drewN | apply below_drew1) | exact HB.out)) : p := h
theorem zac2 {p : Prop} (h : p := by repeat (first | (with_reducible first | exact HB.out | apply below_alloc | apply pw_below_drewN | apply below_drew1 | refine below_set ?_ GE715.out | refine below_set ?_ GE716.out) | exact HB.out)) : p := h
theorem zac3 {p : Prop} (h : p := by (with_reducible repeat (first | refine blk_drewN ?_ _ | refine blk_drew ?_ | refine blk_alloc ?_ _)); exact BK715.out) : p := h
theorem zac4 {p : Prop} (h : p := by repeat (first | (with_reducible first | exact HB.out | apply below_alloc | apply pw_below_drewN | apply below_drew1 | refine below_set ?_ GE709.out | refine below_set ?_ GE710.out) | exact HB.out)) : p := h
theorem zac5 {p : Prop} (h : p := by (with_reducible repeat (first | refine blk_drewN ?_ _ | refine blk_drew ?_ | refine blk_alloc ?_ _)); exact BK709.out) : p := h
theorem zac6 {p : Prop} (h : p := by repeat (first | exact (Kd.C_below HR2.out HB.out) | (with_reducible refine Kd.C_alloc ?_ _) | (with_reducible refine Kd.C_drewN ?_ _) | (with_reducible refine Kd.C_drew ?_))) : p := h
theorem zac7 {p : Prop} (h : p := by repeat (first | (with_reducible first | exact HB.out | apply below_alloc | apply pw_below_drewN | apply below_drew1 | refine below_set ?_ GE715.out) | exact HB.out)) : p := h
theorem zac8 {p : Prop} (h : p := by repeat (first | (with_reducible first | exact HB.out | apply below_alloc | apply pw_below_drewN | apply below_drew1 | refine below_set ?_ GE709.out) | exact HB.out)) : p := h
theorem zac9 {p : Prop} (h : p := by (try simp only [List.map_toArray, List.map_cons, List.map_nil]); first | done | rfl | (simp only [List.length_drop, List.length_take]; rfl)) : p := h
theorem zac10 {p : Prop} (h : p := by repeat (first | exact (Kd.C_below HR0_2.out HB.out) | (with_reducible refine Kd.C_alloc ?_ _) | (with_reducible refine Kd.C_drewN ?_ _) | (with_reducible refine Kd.C_drew ?_))) : p := h
theorem zac11 {p : Prop} (h : p := by (with_reducible repeat (first | refine blk_drewN ?_ _ | refine blk_drew ?_ | refine blk_alloc ?_ _)); exact BK716.out) : p := h
theorem zac12 {p : Prop} (h : p := by repeat (first | (with_reducible first | exact HB.out | apply below_alloc | apply pw_below_drewN | apply below_drew1 | refine below_set ?_ GE715.out | refine below_set ?_ GE716.out | refine below_set ?_ GE723.out) | exact HB.out)) : p := h
theorem zac13 {p : Prop} (h : p := by first | rfl | (simp [errW_none, errW_some] <;> rfl) | (simp [*, errW_none, errW_some] <;> rfl)) : p := h
theorem zac14 {p : Prop} (h : p := by first | exact Kd.R_nil _ _ _ _ _ | exact Kd.N_nil _ _ _ _ _ | exact Kd.V_nil _ _ _ _ _ | exact Kd.Q_nil _ _ _ _ _ | exact Kd.S_nil _ _ _ _ _) : p := h
theorem zac15 {p : Prop} (h : p := by (with_reducible repeat (first | refine blk_drewN ?_ _ | refine blk_drew ?_ | refine blk_alloc ?_ _)); exact BK710.out) : p := h
theorem zac16 {p : Prop} (h : p := by rw [hg]; exact (below_size zac1)) : p := h
theorem zac17 {p : Prop} (h : p := by rw [hg]; exact Nat.ne_of_lt (blk_lt (g := gb715) (o := .cells #[.int .i64 a0_0, .int .i64 a0_1, .slice A0_2 l0_2.length c0_2] 30 (0, 0)) zac3)) : p := h
theorem zac18 {p : Prop} (h : p := by rw [hg]; exact Nat.ne_of_lt (blk_lt (g := gb709) (o := .cells #[.int .i64 a0_0, .int .i64 a0_1, .slice A0_2 l0_2.length c0_2] 30 (0, 0)) zac5)) : p := h
theorem zac19 {p : Prop} (h : p := by rw [hg]; exact Nat.ne_of_gt (blk_lt (g := gb715) (o := .cells #[.int .i64 a0_0, .int .i64 a0_1, .slice A0_2 l0_2.length c0_2] 30 (0, 0)) zac3)) : p := h
theorem zac20 {p : Prop} (h : p := by rw [hg]; exact Nat.ne_of_gt (blk_lt (g := gb709) (o := .cells #[.int .i64 a0_0, .int .i64 a0_1, .slice A0_2 l0_2.length c0_2] 30 (0, 0)) zac5)) : p := h
/-! ### spec_blBack: function 68 -/
def spec_blBack.l0 : Nat → List Int → List Int → Int → Option (List Int)
 | 0, _, _, _ => none
 | k + 1, x0, x3, x4 => if x4 ≥ 0 then (if 0 ≤ x4 then (if x4 < (x0.length : Int) then (if x3.length < 17592186044416 then (spec_blBack.l0 k x0 (x3 ++ [rd x0 x4]) (wrap64 (x4 - 1))) else (none)) else (none)) else (none)) else (some x3)
def spec_blBack.f (k : Nat) (l0 : List Int) : Option (List Int) := spec_blBack.l0 k l0 ([] : List Int) (wrap64 ((l0.length : Int) - 1))
set_option maxHeartbeats 8000000 in
set_option maxRecDepth 100000 in
theorem spec_blBack.calls (k : Nat) (A0 : Option Addr) (c0 : Nat) (l0 : List Int) (r : List Int) (w : World) (hr0 : Kd.C (Kd.int .i64) w A0 l0.length l0) (hc0 : l0.length ≤ c0) (h : spec_blBack.f k l0 = some r) :
  Calls Try.prog 68 #[.slice A0 l0.length c0] w fun e w' => ∃ v0_ : Value, e = .returned (v0_) ∧ Kd.R (Kd.int .i64) 3 w' w.heap.size (fun _ => True) v0_ r ∧ Below w.heap.size w w' := by
 have HR0 := Aside0.mk hr0
 have HC0 := Aside0.mk hc0
 clear hr0 hc0
 have HB := Aside0.mk (Below.refl w.heap.size w)
 have H : (spec_blBack.l0 k l0 ([] : List Int) (wrap64 ((l0.length : Int) - 1))) = some r := h
 clear h
 have H' := Aside0.mk H
 clear H
 go_enter Try.func68, Try.ntmps68
 go_wp2
 go_loopg [3, 4] k (fun kq v3 v4 w' => ∃ (x3_1 : List Int) (x4_1 : Int), v4 = .int .i64 x4_1 ∧ Aside0 (spec_blBack.l0 kq l0 x3_1 x4_1 = some r) ∧ Aside0 (kq ≤ k) ∧ Aside0 (Kd.R (Kd.int .i64) 3 w' w.heap.size (fun _ => True) v3 x3_1) ∧ Aside0 (Below w.heap.size w w'))
 case atStart => exact ⟨(([] : List Int)), (wrap64 ((l0.length : Int) - 1)), (by first | rfl | (simp; done) | (simp [*]; done)), H', ⟨Nat.le_refl _⟩, ⟨zac14⟩, ⟨zac1⟩⟩
 case round =>
  clear H'
  obtain ⟨x3_1, x4_1, rfl, HA, HK1, HO_3, HB⟩ := hrel
  cases gk with
  | zero => exact absurd HA.out (by simp [spec_blBack.l0])
  | succ k1 =>
   have H := HA.out
   clear HA
   simp only [spec_blBack.l0] at H
   by_cases c2 : x4_1 ≥ 0
   rotate_left
   ·rw [if_neg c2] at H
    have c2b0 : decide (0 ≤ x4_1) = false := decide_eq_false c2
    clear c2
    obtain rfl := Option.some.inj H
    go_wp2
    go_ret
    exact ⟨_, zac13, by (with_reducible repeat (first | apply Kd.R_alloc | apply Kd.R_drewN | apply Kd.R_drew)); exact HO_3.out, zac1⟩
   rw [if_pos c2] at H
   have c2b0 : decide (0 ≤ x4_1) = true := decide_eq_true c2
   clear c2
   by_cases c3 : 0 ≤ x4_1
   rotate_left
   ·rw [if_neg c3] at H
    exact absurd H (by simp)
   rw [if_pos c3] at H
   have c3b0 : decide (0 ≤ x4_1) = true := decide_eq_true c3
   clear c3
   by_cases c4 : x4_1 < (l0.length : Int)
   rotate_left
   ·rw [if_neg c4] at H
    exact absurd H (by simp)
   rw [if_pos c4] at H
   have c4b0 : decide (x4_1 < (l0.length : Int)) = true := decide_eq_true c4
   clear c4
   by_cases c5 : x3_1.length < 17592186044416
   rotate_left
   ·rw [if_neg c5] at H
    exact absurd H (by simp)
   rw [if_pos c5] at H
   have LMc5 := Aside0.mk c5
   clear c5
   obtain ⟨y706, hy706⟩ : ∃ y_ : List Int, y_ = (x3_1 ++ [rd l0 x4_1]) := ⟨_, rfl⟩
   replace H : (spec_blBack.l0 k1 l0 y706 (wrap64 (x4_1 - 1))) = some r := by first | (rw [hy706]; with_reducible exact H) | (have H2_ := (Option.bind_some _ _).symm.trans H; rw [hy706]; with_reducible exact H2_) | (have H2_ := (Option.bind_some _ _).symm.trans H; with_reducible exact H2_) | with_reducible exact H | (rw [hy706]; exact H) | exact H
   have Ny706 := Aside0.mk hy706
   clear hy706
   have H' := Aside0.mk H
   clear H
   have p705 : 0 ≤ (x4_1 : Int) := of_decide_eq_true (by first | (with_reducible assumption) | assumption)
   have q705 : x4_1 < (l0.length : Int) := of_decide_eq_true (by first | (with_reducible assumption) | assumption)
   obtain ⟨ad705, e705, hx705_0⟩ := Kd.at_int HR0.out x4_1 p705 q705
   cases e705
   (first | replace hx705_0 := (HB.out.cell (World.block_lt_of_cell? w _ hx705_0)).trans hx705_0 | skip)
   replace p705 := eq_true p705
   replace q705 := eq_true q705
   go_wp2_with (first | ((with_reducible refine gate_builtin (b := .append) (xs := #[.tmp 12, .tmp 17]) rfl ?_); at_builtin; refine Kd.R_append (Kd.int .i64) (w0 := w) w.heap.size rfl (.tmp 12) (.tmp 17) 22 3 (.int .i64 0) 8 rfl Try.underlying22 info3 rfl (by decide) (by omega) u3 x3_1 (rd l0 x4_1) [.int .i64 (rd l0 x4_1)] (fun _ => True) (fun _ => False) rfl rfl ?aP (fun _ hk => hk.elim) ?aF ?aO ?aB ?aS ?aL ?_; (case aP => exact rfl); (case aB => exact zac1); (case aF => exact (fun _ _ => trivial)); (case aO => exact (by (with_reducible repeat (first | apply Kd.R_alloc | apply Kd.R_drewN | apply Kd.R_drew)); exact HO_3.out)); (case aS => exact (below_size zac1)); (case aL => have := LMc5.out; omega); intro v707 w6 ho hb hg hat; rw [← Ny706.out] at ho; have n0_ := Aside0.mk (hb); have n1_ := Aside0.mk (ho); clear HB; clear HO_3; have HB := n0_; have HO708 := n1_; clear n0_ n1_; clear ho hb hg hat))
   go_roundg k1
   case measure => have := HK1.out; omega
   case rel => exact ⟨(y706), (wrap64 (x4_1 - 1)), (by first | rfl | (simp; done) | (simp [*]; done)), H', ⟨by have := HK1.out; omega⟩, ⟨by (with_reducible repeat (first | apply Kd.R_alloc | apply Kd.R_drewN | apply Kd.R_drew)); exact HO708.out⟩, ⟨zac1⟩⟩

/-! ### spec_ReverseWalk: function 32 -/
def spec_ReverseWalk.f (k : Nat) (a0_0 : Int) (a0_1 : Int) (l0_2 : List Int) (a1_0 : Int) (a1_1 : Int) (l2 : List Int) : Option (List Int × Bool) := (spec_blWalk.f k a0_0 a0_1 l0_2 a1_0 a1_1 l2).bind fun t711 => (if t711 = true then ((spec_blBack.f k l2).bind fun t712 => (some (t712, true))) else (some (([] : List Int), false)))
set_option maxHeartbeats 8000000 in
set_option maxRecDepth 100000 in
theorem spec_ReverseWalk.calls (k : Nat) (a0_0 : Int) (a0_1 : Int) (A0_2 : Option Addr) (c0_2 : Nat) (l0_2 : List Int) (a1_0 : Int) (a1_1 : Int) (A2 : Option Addr) (c2 : Nat) (l2 : List Int) (r1 : List Int) (r2 : Bool) (w : World) (hr0_2 : Kd.C (Kd.int .i64) w A0_2 l0_2.length l0_2) (hc0_2 : l0_2.length ≤ c0_2) (hr2 : Kd.C (Kd.int .i64) w A2 l2.length l2) (hc2 : l2.length ≤ c2) (h : spec_ReverseWalk.f k a0_0 a0_1 l0_2 a1_0 a1_1 l2 = some (r1, r2)) :
  Calls Try.prog 32 #[.agg #[.int .i64 a0_0, .int .i64 a0_1, .slice A0_2 l0_2.length c0_2], .agg #[.int .i64 a1_0, .int .i64 a1_1], .slice A2 l2.length c2] w fun e w' => ∃ v0_ : Value, e = .returned (.tuple #[v0_, .bool r2]) ∧ Kd.R (Kd.int .i64) 3 w' w.heap.size (fun _ => True) v0_ r1 ∧ Below w.heap.size w w' := by
 have hu30 := Try.underlying30
 have hu32 := Try.underlying32
 have HR0_2 := Aside0.mk hr0_2
 have HC0_2 := Aside0.mk hc0_2
 clear hr0_2 hc0_2
 have HR2 := Aside0.mk hr2
 have HC2 := Aside0.mk hc2
 clear hr2 hc2
 have HB := Aside0.mk (Below.refl w.heap.size w)
 have H : ((spec_blWalk.f k a0_0 a0_1 l0_2 a1_0 a1_1 l2).bind fun t711 => (if t711 = true then ((spec_blBack.f k l2).bind fun t712 => (some (t712, true))) else (some (([] : List Int), false)))) = some (r1, r2) := h
 clear h
 replace H := Option.bind_eq_some_iff.mp H
 obtain ⟨t711, A40, H⟩ := H
 replace H : (if t711 = true then ((spec_blBack.f k l2).bind fun t712 => (some (t712, true))) else (some (([] : List Int), false))) = some (r1, r2) := H
 have A4 := Aside0.mk A40
 clear A40
 by_cases c5 : t711 = true
 rotate_left
 ·replace c5 := Bool.eq_false_iff.mpr c5
  subst c5
  have H1 : (some (([] : List Int), false)) = some (r1, r2) := by rw [if_neg (show ¬ (false = true) by decide)] at H; exact H
  clear H
  have H := H1
  clear H1
  simp only [Option.some.injEq, Prod.mk.injEq] at H
  obtain ⟨rfl, rfl⟩ := H
  go_enter Try.func32, Try.ntmps32
  go_wp2_with (first | ((with_reducible refine gate_dst (N := 3) rfl ?_); refine box_event ?hg (N := 3) ?hd (cs := #[.int .i64 a0_0, .int .i64 a0_1, .slice A0_2 l0_2.length c0_2]) (t := 30) ?hr ?_; (case hd => rfl); (case hg => rfl); (case hr => first | (go_simp; done) | (go_simp; rfl)); intro gb709 hg w14 hbox hb; have n0_ := Aside0.mk (below_step zac1 hb); have n1_ := Aside0.mk (hbox); have n2_ := Aside0.mk ((zac16 : w.heap.size ≤ gb709)); have n3_ := Aside0.mk ((zac16 : w.heap.size ≤ gb709)); clear HB; have HB := n0_; have BK709 := n1_; have GW709 := n2_; have GE709 := n3_; clear n0_ n1_ n2_ n3_; clear hb hbox hg) | ((with_reducible refine gate_dst (N := 4) rfl ?_); refine box_event ?hg (N := 4) ?hd (cs := #[.int .i64 a1_0, .int .i64 a1_1]) (t := 32) ?hr ?_; (case hd => rfl); (case hg => rfl); (case hr => first | (go_simp; done) | (go_simp; rfl)); intro gb710 hg w15 hbox hb; have n0_ := Aside0.mk (blk_below (g := gb709) (o := .cells #[.int .i64 a0_0, .int .i64 a0_1, .slice A0_2 l0_2.length c0_2] 30 (0, 0)) zac5 hb); have n1_ := Aside0.mk (below_step zac8 hb); have n2_ := Aside0.mk (hbox); have n3_ := Aside0.mk ((by rw [hg]; exact (below_size zac8) : w.heap.size ≤ gb710)); have n4_ := Aside0.mk ((by rw [hg]; exact (below_size zac8) : w.heap.size ≤ gb710)); have n5_ := Aside0.mk ((zac18 : gb709 ≠ gb710)); have n6_ := Aside0.mk ((zac20 : gb710 ≠ gb709)); clear BK709; clear HB; have BK709 := n0_; have HB := n1_; have BK710 := n2_; have GW710 := n3_; have GE710 := n4_; have NB709_710 := n5_; have NB710_709 := n6_; clear n0_ n1_ n2_ n3_ n4_ n5_ n6_; clear hb hbox hg; have hnb16 := NB709_710.out; have hnc16 := NB710_709.out; have hcz17_0 : w15.cell? ⟨gb709, 0, none⟩ = some (.int .i64 a0_0) := (blk_cell BK709.out 0).trans rfl; have hcz17_1 : w15.cell? ⟨gb709, 1, none⟩ = some (.int .i64 a0_1) := (blk_cell BK709.out 1).trans rfl; have hcz17_2 : w15.cell? ⟨gb709, 2, none⟩ = some (.slice A0_2 l0_2.length c0_2) := (blk_cell BK709.out 2).trans rfl; have hfz17_0 := blk_frozen BK709.out 0; have hfz17_1 := blk_frozen BK709.out 1; have hfz17_2 := blk_frozen BK709.out 2; have hcz18_0 : w15.cell? ⟨gb710, 0, none⟩ = some (.int .i64 a1_0) := (blk_cell BK710.out 0).trans rfl; have hcz18_1 : w15.cell? ⟨gb710, 1, none⟩ = some (.int .i64 a1_1) := (blk_cell BK710.out 1).trans rfl; have hfz18_0 := blk_frozen BK710.out 0; have hfz18_1 := blk_frozen BK710.out 1) | ((with_reducible refine gate_callee (f := 60) rfl ?_); refine goesL_ (some 11) rfl rfl Try.func60 (by kernel_rfl) rfl #[.agg #[.int .i64 a0_0, .int .i64 a0_1, .slice A0_2 l0_2.length c0_2], .agg #[.int .i64 a1_0, .int .i64 a1_1], .slice A2 l2.length c2] rfl zac9 ?_; (with_reducible refine (spec_blWalk.calls k a0_0 a0_1 _ _ l0_2 a1_0 a1_1 _ _ l2 false _ ?side1 ?side2 ?side3 ?side4 A4.out).mono ?_); (case side1 => exact zac10); (case side2 => exact HC0_2.out); (case side3 => exact zac6); (case side4 => exact HC2.out); rintro e w19 ⟨rfl, hb⟩; refine ⟨_, rfl, ?_⟩; have n0_ := Aside0.mk (blk_below (g := gb709) (o := .cells #[.int .i64 a0_0, .int .i64 a0_1, .slice A0_2 l0_2.length c0_2] 30 (0, 0)) zac5 hb); have n1_ := Aside0.mk (blk_below (g := gb710) (o := .cells #[.int .i64 a1_0, .int .i64 a1_1] 32 (0, 0)) zac15 hb); have n2_ := Aside0.mk (below_step zac4 hb); clear BK709; clear BK710; clear HB; have BK709 := n0_; have BK710 := n1_; have HB := n2_; clear n0_ n1_ n2_; (try clear hb); (try clear hb2); (try clear hk); (try clear hi); (try clear hna_); (try clear hnb_)))
  go_ret2
  exact ⟨_, zac13, zac14, zac4⟩
 subst c5
 have H1 : ((spec_blBack.f k l2).bind fun t712 => (some (t712, true))) = some (r1, r2) := by rw [if_pos rfl] at H; exact H
 clear H
 have H := H1
 clear H1
 replace H := Option.bind_eq_some_iff.mp H
 obtain ⟨t712, A60, H⟩ := H
 replace H : (some (t712, true)) = some (r1, r2) := H
 have A6 := Aside0.mk A60
 clear A60
 simp only [Option.some.injEq, Prod.mk.injEq] at H
 obtain ⟨rfl, rfl⟩ := H
 go_enter Try.func32, Try.ntmps32
 go_wp2_with (first | ((with_reducible refine gate_dst (N := 3) rfl ?_); refine box_event ?hg (N := 3) ?hd (cs := #[.int .i64 a0_0, .int .i64 a0_1, .slice A0_2 l0_2.length c0_2]) (t := 30) ?hr ?_; (case hd => rfl); (case hg => rfl); (case hr => first | (go_simp; done) | (go_simp; rfl)); intro gb709 hg w7 hbox hb; have n0_ := Aside0.mk (below_step zac1 hb); have n1_ := Aside0.mk (hbox); have n2_ := Aside0.mk ((zac16 : w.heap.size ≤ gb709)); have n3_ := Aside0.mk ((zac16 : w.heap.size ≤ gb709)); clear HB; have HB := n0_; have BK709 := n1_; have GW709 := n2_; have GE709 := n3_; clear n0_ n1_ n2_ n3_; clear hb hbox hg) | ((with_reducible refine gate_dst (N := 4) rfl ?_); refine box_event ?hg (N := 4) ?hd (cs := #[.int .i64 a1_0, .int .i64 a1_1]) (t := 32) ?hr ?_; (case hd => rfl); (case hg => rfl); (case hr => first | (go_simp; done) | (go_simp; rfl)); intro gb710 hg w8 hbox hb; have n0_ := Aside0.mk (blk_below (g := gb709) (o := .cells #[.int .i64 a0_0, .int .i64 a0_1, .slice A0_2 l0_2.length c0_2] 30 (0, 0)) zac5 hb); have n1_ := Aside0.mk (below_step zac8 hb); have n2_ := Aside0.mk (hbox); have n3_ := Aside0.mk ((by rw [hg]; exact (below_size zac8) : w.heap.size ≤ gb710)); have n4_ := Aside0.mk ((by rw [hg]; exact (below_size zac8) : w.heap.size ≤ gb710)); have n5_ := Aside0.mk ((zac18 : gb709 ≠ gb710)); have n6_ := Aside0.mk ((zac20 : gb710 ≠ gb709)); clear BK709; clear HB; have BK709 := n0_; have HB := n1_; have BK710 := n2_; have GW710 := n3_; have GE710 := n4_; have NB709_710 := n5_; have NB710_709 := n6_; clear n0_ n1_ n2_ n3_ n4_ n5_ n6_; clear hb hbox hg; have hnb9 := NB709_710.out; have hnc9 := NB710_709.out; have hcz10_0 : w8.cell? ⟨gb709, 0, none⟩ = some (.int .i64 a0_0) := (blk_cell BK709.out 0).trans rfl; have hcz10_1 : w8.cell? ⟨gb709, 1, none⟩ = some (.int .i64 a0_1) := (blk_cell BK709.out 1).trans rfl; have hcz10_2 : w8.cell? ⟨gb709, 2, none⟩ = some (.slice A0_2 l0_2.length c0_2) := (blk_cell BK709.out 2).trans rfl; have hfz10_0 := blk_frozen BK709.out 0; have hfz10_1 := blk_frozen BK709.out 1; have hfz10_2 := blk_frozen BK709.out 2; have hcz11_0 : w8.cell? ⟨gb710, 0, none⟩ = some (.int .i64 a1_0) := (blk_cell BK710.out 0).trans rfl; have hcz11_1 : w8.cell? ⟨gb710, 1, none⟩ = some (.int .i64 a1_1) := (blk_cell BK710.out 1).trans rfl; have hfz11_0 := blk_frozen BK710.out 0; have hfz11_1 := blk_frozen BK710.out 1) | ((with_reducible refine gate_callee (f := 60) rfl ?_); refine goesL_ (some 11) rfl rfl Try.func60 (by kernel_rfl) rfl #[.agg #[.int .i64 a0_0, .int .i64 a0_1, .slice A0_2 l0_2.length c0_2], .agg #[.int .i64 a1_0, .int .i64 a1_1], .slice A2 l2.length c2] rfl zac9 ?_; (with_reducible refine (spec_blWalk.calls k a0_0 a0_1 _ _ l0_2 a1_0 a1_1 _ _ l2 true _ ?side1 ?side2 ?side3 ?side4 A4.out).mono ?_); (case side1 => exact zac10); (case side2 => exact HC0_2.out); (case side3 => exact zac6); (case side4 => exact HC2.out); rintro e w12 ⟨rfl, hb⟩; refine ⟨_, rfl, ?_⟩; have n0_ := Aside0.mk (blk_below (g := gb709) (o := .cells #[.int .i64 a0_0, .int .i64 a0_1, .slice A0_2 l0_2.length c0_2] 30 (0, 0)) zac5 hb); have n1_ := Aside0.mk (blk_below (g := gb710) (o := .cells #[.int .i64 a1_0, .int .i64 a1_1] 32 (0, 0)) zac15 hb); have n2_ := Aside0.mk (below_step zac4 hb); clear BK709; clear BK710; clear HB; have BK709 := n0_; have BK710 := n1_; have HB := n2_; clear n0_ n1_ n2_; (try clear hb); (try clear hb2); (try clear hk); (try clear hi); (try clear hna_); (try clear hnb_)) | ((with_reducible refine gate_callee (f := 68) rfl ?_); refine goesL_ (some 14) rfl rfl Try.func68 (by kernel_rfl) rfl #[.slice A2 l2.length c2] rfl zac9 ?_; (with_reducible refine (spec_blBack.calls k _ _ l2 t712 _ ?side1 ?side2 A6.out).mono ?_); (case side1 => exact zac6); (case side2 => exact HC2.out); rintro e w13 ⟨v713, rfl, ho0, hb⟩; refine ⟨_, rfl, ?_⟩; have n0_ := Aside0.mk (Kd.R_lower ho0 (below_size zac4)); have n1_ := Aside0.mk (blk_below (g := gb709) (o := .cells #[.int .i64 a0_0, .int .i64 a0_1, .slice A0_2 l0_2.length c0_2] 30 (0, 0)) zac5 hb); have n2_ := Aside0.mk (blk_below (g := gb710) (o := .cells #[.int .i64 a1_0, .int .i64 a1_1] 32 (0, 0)) zac15 hb); have n3_ := Aside0.mk (below_step zac4 hb); clear BK709; clear BK710; clear HB; have HO714 := n0_; have BK709 := n1_; have BK710 := n2_; have HB := n3_; clear n0_ n1_ n2_ n3_; (try clear hb); (try clear hb2); (try clear hk); (try clear hi); (try clear ho0); (try clear hna_); (try clear hnb_)))
 go_ret2
 exact ⟨_, zac13, by (with_reducible repeat (first | apply Kd.R_alloc | apply Kd.R_drewN | apply Kd.R_drew)); exact HO714.out, zac4⟩

/-! ### impl_ReverseWalk: function 33 -/
def impl_ReverseWalk.f (k : Nat) (a0_0 : Int) (a0_1 : Int) (l0_2 : List Int) (a1_0 : Int) (a1_1 : Int) (l2 : List Int) : Option (List Int × Bool) := (impl_walkGraph.f k a0_0 a0_1 l0_2 a1_0 a1_1 l2).bind fun bt717 => (if bt717.2.2 = true then ((impl_backwards.f k l2).bind fun t726 => (some (t726, true))) else (some (([] : List Int), false)))
set_option maxHeartbeats 8000000 in
set_option maxRecDepth 100000 in
theorem impl_ReverseWalk.calls (k : Nat) (a0_0 : Int) (a0_1 : Int) (A0_2 : Option Addr) (c0_2 : Nat) (l0_2 : List Int) (a1_0 : Int) (a1_1 : Int) (A2 : Option Addr) (c2 : Nat) (l2 : List Int) (r1 : List Int) (r2 : Bool) (w : World) (hr0_2 : Kd.C (Kd.int .i64) w A0_2 l0_2.length l0_2) (hc0_2 : l0_2.length ≤ c0_2) (hr2 : Kd.C (Kd.int .i64) w A2 l2.length l2) (hc2 : l2.length ≤ c2) (h : impl_ReverseWalk.f k a0_0 a0_1 l0_2 a1_0 a1_1 l2 = some (r1, r2)) :
  Calls Try.prog 33 #[.agg #[.int .i64 a0_0, .int .i64 a0_1, .slice A0_2 l0_2.length c0_2], .agg #[.int .i64 a1_0, .int .i64 a1_1], .slice A2 l2.length c2] w fun e w' => ∃ v0_ : Value, e = .returned (.tuple #[v0_, .bool r2]) ∧ Kd.R (Kd.int .i64) 3 w' w.heap.size (fun _ => True) v0_ r1 ∧ Below w.heap.size w w' := by
 have hu30 := Try.underlying30
 have hu32 := Try.underlying32
 have HR0_2 := Aside0.mk hr0_2
 have HC0_2 := Aside0.mk hc0_2
 clear hr0_2 hc0_2
 have HR2 := Aside0.mk hr2
 have HC2 := Aside0.mk hc2
 clear hr2 hc2
 have HB := Aside0.mk (Below.refl w.heap.size w)
 have H : ((impl_walkGraph.f k a0_0 a0_1 l0_2 a1_0 a1_1 l2).bind fun bt717 => (if bt717.2.2 = true then ((impl_backwards.f k l2).bind fun t726 => (some (t726, true))) else (some (([] : List Int), false)))) = some (r1, r2) := h
 clear h
 replace H := Option.bind_eq_some_iff.mp H
 obtain ⟨⟨t717, t720, t725⟩, A40, H⟩ := H
 replace H : (if t725 = true then ((impl_backwards.f k l2).bind fun t726 => (some (t726, true))) else (some (([] : List Int), false))) = some (r1, r2) := H
 have A4 := Aside0.mk A40
 clear A40
 by_cases c5 : t725 = true
 rotate_left
 ·replace c5 := Bool.eq_false_iff.mpr c5
  subst c5
  have H1 : (some (([] : List Int), false)) = some (r1, r2) := by rw [if_neg (show ¬ (false = true) by decide)] at H; exact H
  clear H
  have H := H1
  clear H1
  simp only [Option.some.injEq, Prod.mk.injEq] at H
  obtain ⟨rfl, rfl⟩ := H
  go_enter Try.func33, Try.ntmps33
  go_wp2_with (first | ((with_reducible refine gate_dst (N := 3) rfl ?_); refine box_event ?hg (N := 3) ?hd (cs := #[.int .i64 a0_0, .int .i64 a0_1, .slice A0_2 l0_2.length c0_2]) (t := 30) ?hr ?_; (case hd => rfl); (case hg => rfl); (case hr => first | (go_simp; done) | (go_simp; rfl)); intro gb715 hg w14 hbox hb; have n0_ := Aside0.mk (below_step zac1 hb); have n1_ := Aside0.mk (hbox); have n2_ := Aside0.mk ((zac16 : w.heap.size ≤ gb715)); have n3_ := Aside0.mk ((zac16 : w.heap.size ≤ gb715)); clear HB; have HB := n0_; have BK715 := n1_; have GW715 := n2_; have GE715 := n3_; clear n0_ n1_ n2_ n3_; clear hb hbox hg) | ((with_reducible refine gate_dst (N := 4) rfl ?_); refine box_event ?hg (N := 4) ?hd (cs := #[.int .i64 a1_0, .int .i64 a1_1]) (t := 32) ?hr ?_; (case hd => rfl); (case hg => rfl); (case hr => first | (go_simp; done) | (go_simp; rfl)); intro gb716 hg w15 hbox hb; have n0_ := Aside0.mk (blk_below (g := gb715) (o := .cells #[.int .i64 a0_0, .int .i64 a0_1, .slice A0_2 l0_2.length c0_2] 30 (0, 0)) zac3 hb); have n1_ := Aside0.mk (below_step zac7 hb); have n2_ := Aside0.mk (hbox); have n3_ := Aside0.mk ((by rw [hg]; exact (below_size zac7) : w.heap.size ≤ gb716)); have n4_ := Aside0.mk ((by rw [hg]; exact (below_size zac7) : w.heap.size ≤ gb716)); have n5_ := Aside0.mk ((zac17 : gb715 ≠ gb716)); have n6_ := Aside0.mk ((zac19 : gb716 ≠ gb715)); clear BK715; clear HB; have BK715 := n0_; have HB := n1_; have BK716 := n2_; have GW716 := n3_; have GE716 := n4_; have NB715_716 := n5_; have NB716_715 := n6_; clear n0_ n1_ n2_ n3_ n4_ n5_ n6_; clear hb hbox hg; have hnb16 := NB715_716.out; have hnc16 := NB716_715.out; have hcz17_0 : w15.cell? ⟨gb715, 0, none⟩ = some (.int .i64 a0_0) := (blk_cell BK715.out 0).trans rfl; have hcz17_1 : w15.cell? ⟨gb715, 1, none⟩ = some (.int .i64 a0_1) := (blk_cell BK715.out 1).trans rfl; have hcz17_2 : w15.cell? ⟨gb715, 2, none⟩ = some (.slice A0_2 l0_2.length c0_2) := (blk_cell BK715.out 2).trans rfl; have hfz17_0 := blk_frozen BK715.out 0; have hfz17_1 := blk_frozen BK715.out 1; have hfz17_2 := blk_frozen BK715.out 2; have hcz18_0 : w15.cell? ⟨gb716, 0, none⟩ = some (.int .i64 a1_0) := (blk_cell BK716.out 0).trans rfl; have hcz18_1 : w15.cell? ⟨gb716, 1, none⟩ = some (.int .i64 a1_1) := (blk_cell BK716.out 1).trans rfl; have hfz18_0 := blk_frozen BK716.out 0; have hfz18_1 := blk_frozen BK716.out 1) | ((with_reducible refine gate_callee (f := 62) rfl ?_); refine goesL_ (some 14) rfl rfl Try.func62 (by kernel_rfl) rfl #[.agg #[.int .i64 a0_0, .int .i64 a0_1, .slice A0_2 l0_2.length c0_2], .agg #[.int .i64 a1_0, .int .i64 a1_1], .slice A2 l2.length c2] rfl zac9 ?_; (with_reducible refine (impl_walkGraph.calls k a0_0 a0_1 _ _ l0_2 a1_0 a1_1 _ _ l2 t717 t720 false _ ?side1 ?side2 ?side3 ?side4 A4.out).mono ?_); (case side1 => exact zac10); (case side2 => exact HC0_2.out); (case side3 => exact zac6); (case side4 => exact HC2.out); rintro e w19 ⟨v718, v721, pv724, rfl, hgp, ho0, ho1, hb⟩; refine ⟨_, rfl, ?_⟩; obtain rfl := hgp.2 rfl; have n0_ := Aside0.mk (Kd.R_lower ho0 (below_size zac2)); have n1_ := Aside0.mk (Kd.S_lower ho1 (below_size zac2)); have n2_ := Aside0.mk (blk_below (g := gb715) (o := .cells #[.int .i64 a0_0, .int .i64 a0_1, .slice A0_2 l0_2.length c0_2] 30 (0, 0)) zac3 hb); have n3_ := Aside0.mk (blk_below (g := gb716) (o := .cells #[.int .i64 a1_0, .int .i64 a1_1] 32 (0, 0)) zac11 hb); have n4_ := Aside0.mk (below_step zac2 hb); clear BK715; clear BK716; clear HB; have HO719 := n0_; have HO722 := n1_; have BK715 := n2_; have BK716 := n3_; have HB := n4_; clear n0_ n1_ n2_ n3_ n4_; (try clear hb); (try clear hb2); (try clear hk); (try clear hi); (try clear ho0); (try clear ho1); (try clear hgp); (try clear hbox); (try clear hge); (try clear hna_); (try clear hnb_)))
  go_ret2
  exact ⟨_, zac13, zac14, zac2⟩
 subst c5
 have H1 : ((impl_backwards.f k l2).bind fun t726 => (some (t726, true))) = some (r1, r2) := by rw [if_pos rfl] at H; exact H
 clear H
 have H := H1
 clear H1
 replace H := Option.bind_eq_some_iff.mp H
 obtain ⟨t726, A60, H⟩ := H
 replace H : (some (t726, true)) = some (r1, r2) := H
 have A6 := Aside0.mk A60
 clear A60
 simp only [Option.some.injEq, Prod.mk.injEq] at H
 obtain ⟨rfl, rfl⟩ := H
 go_enter Try.func33, Try.ntmps33
 go_wp2_with (first | ((with_reducible refine gate_dst (N := 3) rfl ?_); refine box_event ?hg (N := 3) ?hd (cs := #[.int .i64 a0_0, .int .i64 a0_1, .slice A0_2 l0_2.length c0_2]) (t := 30) ?hr ?_; (case hd => rfl); (case hg => rfl); (case hr => first | (go_simp; done) | (go_simp; rfl)); intro gb715 hg w7 hbox hb; have n0_ := Aside0.mk (below_step zac1 hb); have n1_ := Aside0.mk (hbox); have n2_ := Aside0.mk ((zac16 : w.heap.size ≤ gb715)); have n3_ := Aside0.mk ((zac16 : w.heap.size ≤ gb715)); clear HB; have HB := n0_; have BK715 := n1_; have GW715 := n2_; have GE715 := n3_; clear n0_ n1_ n2_ n3_; clear hb hbox hg) | ((with_reducible refine gate_dst (N := 4) rfl ?_); refine box_event ?hg (N := 4) ?hd (cs := #[.int .i64 a1_0, .int .i64 a1_1]) (t := 32) ?hr ?_; (case hd => rfl); (case hg => rfl); (case hr => first | (go_simp; done) | (go_simp; rfl)); intro gb716 hg w8 hbox hb; have n0_ := Aside0.mk (blk_below (g := gb715) (o := .cells #[.int .i64 a0_0, .int .i64 a0_1, .slice A0_2 l0_2.length c0_2] 30 (0, 0)) zac3 hb); have n1_ := Aside0.mk (below_step zac7 hb); have n2_ := Aside0.mk (hbox); have n3_ := Aside0.mk ((by rw [hg]; exact (below_size zac7) : w.heap.size ≤ gb716)); have n4_ := Aside0.mk ((by rw [hg]; exact (below_size zac7) : w.heap.size ≤ gb716)); have n5_ := Aside0.mk ((zac17 : gb715 ≠ gb716)); have n6_ := Aside0.mk ((zac19 : gb716 ≠ gb715)); clear BK715; clear HB; have BK715 := n0_; have HB := n1_; have BK716 := n2_; have GW716 := n3_; have GE716 := n4_; have NB715_716 := n5_; have NB716_715 := n6_; clear n0_ n1_ n2_ n3_ n4_ n5_ n6_; clear hb hbox hg; have hnb9 := NB715_716.out; have hnc9 := NB716_715.out; have hcz10_0 : w8.cell? ⟨gb715, 0, none⟩ = some (.int .i64 a0_0) := (blk_cell BK715.out 0).trans rfl; have hcz10_1 : w8.cell? ⟨gb715, 1, none⟩ = some (.int .i64 a0_1) := (blk_cell BK715.out 1).trans rfl; have hcz10_2 : w8.cell? ⟨gb715, 2, none⟩ = some (.slice A0_2 l0_2.length c0_2) := (blk_cell BK715.out 2).trans rfl; have hfz10_0 := blk_frozen BK715.out 0; have hfz10_1 := blk_frozen BK715.out 1; have hfz10_2 := blk_frozen BK715.out 2; have hcz11_0 : w8.cell? ⟨gb716, 0, none⟩ = some (.int .i64 a1_0) := (blk_cell BK716.out 0).trans rfl; have hcz11_1 : w8.cell? ⟨gb716, 1, none⟩ = some (.int .i64 a1_1) := (blk_cell BK716.out 1).trans rfl; have hfz11_0 := blk_frozen BK716.out 0; have hfz11_1 := blk_frozen BK716.out 1) | ((with_reducible refine gate_callee (f := 62) rfl ?_); refine goesL_ (some 14) rfl rfl Try.func62 (by kernel_rfl) rfl #[.agg #[.int .i64 a0_0, .int .i64 a0_1, .slice A0_2 l0_2.length c0_2], .agg #[.int .i64 a1_0, .int .i64 a1_1], .slice A2 l2.length c2] rfl zac9 ?_; (with_reducible refine (impl_walkGraph.calls k a0_0 a0_1 _ _ l0_2 a1_0 a1_1 _ _ l2 t717 t720 true _ ?side1 ?side2 ?side3 ?side4 A4.out).mono ?_); (case side1 => exact zac10); (case side2 => exact HC0_2.out); (case side3 => exact zac6); (case side4 => exact HC2.out); rintro e w12 ⟨v718, v721, pv724, rfl, hgp, ho0, ho1, hb⟩; refine ⟨_, rfl, ?_⟩; obtain ⟨gb723, rfl, hbox, hge⟩ := hgp.1 rfl; have n0_ := Aside0.mk (Kd.R_lower ho0 (below_size zac2)); have n1_ := Aside0.mk (Kd.S_lower ho1 (below_size zac2)); have n2_ := Aside0.mk (blk_below (g := gb715) (o := .cells #[.int .i64 a0_0, .int .i64 a0_1, .slice A0_2 l0_2.length c0_2] 30 (0, 0)) zac3 hb); have n3_ := Aside0.mk (blk_below (g := gb716) (o := .cells #[.int .i64 a1_0, .int .i64 a1_1] 32 (0, 0)) zac11 hb); have n4_ := Aside0.mk (hbox); have n5_ := Aside0.mk ((Nat.le_trans (by exact (below_size zac2)) hge : w.heap.size ≤ gb723)); have n6_ := Aside0.mk ((Nat.le_trans (by exact (below_size zac2)) hge : w.heap.size ≤ gb723)); have n7_ := Aside0.mk ((Nat.ne_of_lt (Nat.lt_of_lt_of_le (blk_lt (g := gb715) (o := .cells #[.int .i64 a0_0, .int .i64 a0_1, .slice A0_2 l0_2.length c0_2] 30 (0, 0)) zac3) hge) : gb715 ≠ gb723)); have n8_ := Aside0.mk ((Nat.ne_of_gt (Nat.lt_of_lt_of_le (blk_lt (g := gb715) (o := .cells #[.int .i64 a0_0, .int .i64 a0_1, .slice A0_2 l0_2.length c0_2] 30 (0, 0)) zac3) hge) : gb723 ≠ gb715)); have n9_ := Aside0.mk ((Nat.ne_of_lt (Nat.lt_of_lt_of_le (blk_lt (g := gb716) (o := .cells #[.int .i64 a1_0, .int .i64 a1_1] 32 (0, 0)) zac11) hge) : gb716 ≠ gb723)); have n10_ := Aside0.mk ((Nat.ne_of_gt (Nat.lt_of_lt_of_le (blk_lt (g := gb716) (o := .cells #[.int .i64 a1_0, .int .i64 a1_1] 32 (0, 0)) zac11) hge) : gb723 ≠ gb716)); have n11_ := Aside0.mk (below_step zac2 hb); clear BK715; clear BK716; clear HB; have HO719 := n0_; have HO722 := n1_; have BK715 := n2_; have BK716 := n3_; have BK723 := n4_; have GW723 := n5_; have GE723 := n6_; have NB715_723 := n7_; have NB723_715 := n8_; have NB716_723 := n9_; have NB723_716 := n10_; have HB := n11_; clear n0_ n1_ n2_ n3_ n4_ n5_ n6_ n7_ n8_ n9_ n10_ n11_; (try clear hb); (try clear hb2); (try clear hk); (try clear hi); (try clear ho0); (try clear ho1); (try clear hgp); (try clear hbox); (try clear hge); (try clear hna_); (try clear hnb_)) | ((with_reducible refine gate_callee (f := 52) rfl ?_); refine goesL_ (some 20) rfl rfl Try.func52 (by kernel_rfl) rfl #[.slice A2 l2.length c2] rfl zac9 ?_; (with_reducible refine (impl_backwards.calls k _ _ l2 t726 _ ?side1 ?side2 A6.out).mono ?_); (case side1 => exact zac6); (case side2 => exact HC2.out); rintro e w13 ⟨v727, rfl, ho0, hb⟩; refine ⟨_, rfl, ?_⟩; have n0_ := Aside0.mk (Kd.R_elder' (by (with_reducible repeat (first | apply Kd.R_alloc | apply Kd.R_drewN | apply Kd.R_drew)); exact HO719.out) (Kd.R_base ho0) hb); have n1_ := Aside0.mk (Kd.S_elder' (by (with_reducible repeat (first | apply Kd.S_alloc | apply Kd.S_drewN | apply Kd.S_drew)); exact HO722.out) (Kd.R_base ho0) hb); have n2_ := Aside0.mk (Kd.R_lower (Kd.R_new' ho0 (Kd.R_lt (by (with_reducible repeat (first | apply Kd.R_alloc | apply Kd.R_drewN | apply Kd.R_drew)); exact HO719.out))) (below_size zac12)); have n3_ := Aside0.mk (blk_below (g := gb715) (o := .cells #[.int .i64 a0_0, .int .i64 a0_1, .slice A0_2 l0_2.length c0_2] 30 (0, 0)) zac3 hb); have n4_ := Aside0.mk (blk_below (g := gb716) (o := .cells #[.int .i64 a1_0, .int .i64 a1_1] 32 (0, 0)) zac11 hb); have n5_ := Aside0.mk (blk_below (g := gb723) (o := .cells #[.int .i64 a0_0, .int .i64 a0_1, .slice A0_2 l0_2.length c0_2, .int .i64 a1_0, .int .i64 a1_1, v718, v721] 82 (0, 0)) (by (with_reducible repeat (first | refine blk_drewN ?_ _ | refine blk_drew ?_ | refine blk_alloc ?_ _)); exact BK723.out) hb); have n6_ := Aside0.mk (below_step zac12 hb); clear HO719; clear HO722; clear BK715; clear BK716; clear BK723; clear HB; have HO719 := n0_; have HO722 := n1_; have HO728 := n2_; have BK715 := n3_; have BK716 := n4_; have BK723 := n5_; have HB := n6_; clear n0_ n1_ n2_ n3_ n4_ n5_ n6_; (try clear hb); (try clear hb2); (try clear hk); (try clear hi); (try clear ho0); (try clear hna_); (try clear hnb_)))
 go_ret2
 exact ⟨_, zac13, by (with_reducible repeat (first | apply Kd.R_alloc | apply Kd.R_drewN | apply Kd.R_drew)); exact Kd.R_mono HO728.out (fun _ hk => trivial), zac12⟩

end Go.Proofs.Ytjeongckkfkehaa.Q

/- Written by a program of this session: functions of the translation as plain Lean functions, each with a proof that the call does what the plain function says; the conditions stand in each theorem. -/
import Derived.Test.YtbecdckdbeoomaaQ0
import Derived.Test.YtbecdckdbeoomaaQ1
import Derived.Test.YtbecdckdbeoomaaQ6
namespace Go.Proofs.Ytbecdckdbeoomaa.Q
open Go.RowKit Go.Proofs.YtbecdckdbeoomaaW.PrintWords Go.Proofs.YtbecdckdbeoomaaW.PrintLast Go.Proofs.YtbecdckdbeoomaaW.PrintMore
attribute [local go_sem] max2_int min2_int max_two min_two max_three min_three max_four min_four   -- for this text's walks alone
set_option linter.unusedVariables false
set_option linter.unusedSimpArgs false

theorem zag1 {p : Prop} (h : p := by repeat (first | (with_reducible first | exact HB.out | apply below_alloc | apply pw_below_drewN | apply below_drew1 | refine below_set ?_ GE639.out | refine below_set ?_ GE640.out) | exact HB.out)) : p := h
theorem zag2 {p : Prop} (h : p := by repeat (first | (with_reducible first | exact HB.out | apply below_alloc | apply pw_below_drewN | apply below_drew1 | refine below_set ?_ GE634.out) | exact HB.out)) : p := h
theorem zag3 {p : Prop} (h : p := by first | exact BK639.out | ((with_reducible repeat (first | refine blk_drewN ?_ _ | refine blk_drew ?_ | refine blk_alloc ?_ _)); exact BK639.out)) : p := h
theorem zag4 {p : Prop} (h : p := by first | exact BK640.out | ((with_reducible repeat (first | refine blk_drewN ?_ _ | refine blk_drew ?_ | refine blk_alloc ?_ _)); exact BK640.out)) : p := h
theorem zag5 {p : Prop} (h : p := by repeat (first | exact (Kd.C_below HR0_2.out HB.out) | (with_reducible refine Kd.C_alloc ?_ _) | (with_reducible refine Kd.C_drewN ?_ _) | (with_reducible refine Kd.C_drew ?_))) : p := h
theorem zag6 {p : Prop} (h : p := by repeat (first | (with_reducible first | exact HB.out | apply below_alloc | apply pw_below_drewN | apply below_drew1) | exact HB.out)) : p := h
theorem zag7 {p : Prop} (h : p := by first | exact BK634.out | ((with_reducible repeat (first | refine blk_drewN ?_ _ | refine blk_drew ?_ | refine blk_alloc ?_ _)); exact BK634.out)) : p := h
theorem zag8 {p : Prop} (h : p := by (try simp only [List.map_toArray, List.map_cons, List.map_nil]); first | done | rfl | (simp only [List.length_drop, List.length_take]; rfl)) : p := h
theorem zag9 {p : Prop} (h : p := by first | exact HO_3.out | ((with_reducible repeat (first | apply Kd.R_alloc | apply Kd.R_drewN | apply Kd.R_drew)); exact HO_3.out)) : p := h
theorem zag10 {p : Prop} (h : p := by repeat (first | (with_reducible first | exact HB.out | apply below_alloc | apply pw_below_drewN | apply below_drew1 | refine below_set ?_ GE639.out) | exact HB.out)) : p := h
theorem zag11 {p : Prop} (h : p := by first | exact HO_11.out | ((with_reducible repeat (first | apply Kd.R_alloc | apply Kd.R_drewN | apply Kd.R_drew)); exact HO_11.out)) : p := h
theorem zag12 {p : Prop} (h : p := by first | exact HO_7.out | ((with_reducible repeat (first | apply Kd.R_alloc | apply Kd.R_drewN | apply Kd.R_drew)); exact HO_7.out)) : p := h
theorem zag13 {p : Prop} (h : p := by first | rfl | (simp; done) | (simp [*]; done)) : p := h
theorem zag14 {p : Prop} (h : p := by first | exact Kd.R_nil _ _ _ _ _ | exact Kd.N_nil _ _ _ _ _ | exact Kd.V_nil _ _ _ _ _ | exact Kd.Q_nil _ _ _ _ _ | exact Kd.S_nil _ _ _ _ _) : p := h
theorem zag15 {p : Prop} (h : p := by first | (with_reducible assumption) | assumption) : p := h
/-! ### spec_boCells: function 56 -/
def spec_boCells.l0 : Nat → List Int → Int → Int → Int → List Int → Option (List Int)
 | 0, _, _, _, _, _ => none
 | k + 1, x3, x4, x635000, x635001, x635002 => if x4 < (wrap64 (x635000 * x635001)) then ((spec_boHas.f k x635000 x635001 x635002 x4).bind fun t635 => (if t635 = true then (if x3.length < 17592186044416 then (spec_boCells.l0 k (x3 ++ [x4]) (wrap64 (x4 + 1)) x635000 x635001 x635002) else (none)) else (spec_boCells.l0 k x3 (wrap64 (x4 + 1)) x635000 x635001 x635002))) else (some x3)
def spec_boCells.f (k : Nat) (a0_0 : Int) (a0_1 : Int) (l0_2 : List Int) : Option (List Int) := spec_boCells.l0 k ([] : List Int) 0 a0_0 a0_1 l0_2
set_option maxHeartbeats 8000000 in
set_option maxRecDepth 100000 in
theorem spec_boCells.calls (k : Nat) (a0_0 : Int) (a0_1 : Int) (A0_2 : Option Addr) (c0_2 : Nat) (l0_2 : List Int) (r : List Int) (w : World) (hr0_2 : Kd.C (Kd.int .i64) w A0_2 l0_2.length l0_2) (hc0_2 : l0_2.length ≤ c0_2) (h : spec_boCells.f k a0_0 a0_1 l0_2 = some r) :
  Calls Try.prog 56 #[.agg #[.int .i64 a0_0, .int .i64 a0_1, .slice A0_2 l0_2.length c0_2]] w fun e w' => ∃ v0_ : Value, e = .returned (v0_) ∧ Kd.R (Kd.int .i64) 3 w' w.heap.size (fun _ => True) v0_ r ∧ Below w.heap.size w w' := by
 have hu30 := Try.underlying30
 have HR0_2 := Aside0.mk hr0_2
 have HC0_2 := Aside0.mk hc0_2
 clear hr0_2 hc0_2
 have HB := Aside0.mk (Below.refl w.heap.size w)
 have H : (spec_boCells.l0 k ([] : List Int) 0 a0_0 a0_1 l0_2) = some r := h
 clear h
 have H' := Aside0.mk H
 clear H
 go_enter Try.func56, Try.ntmps56
 go_wp2_with (first | ((with_reducible refine gate_dst (N := 1) rfl ?_); refine box_event ?hg (N := 1) ?hd (cs := #[.int .i64 a0_0, .int .i64 a0_1, .slice A0_2 l0_2.length c0_2]) (t := 30) ?hr ?_; (case hd => rfl); (case hg => rfl); (case hr => first | (go_simp; done) | (go_simp; rfl)); intro gb634 hg w2 hbox hb; have n0_ := Aside0.mk (below_step zag6 hb); have n1_ := Aside0.mk (hbox); have n2_ := Aside0.mk ((by rw [hg]; exact (below_size zag6) : w.heap.size ≤ gb634)); have n3_ := Aside0.mk ((by rw [hg]; exact (below_size zag6) : w.heap.size ≤ gb634)); clear HB; have HB := n0_; have BK634 := n1_; have GW634 := n2_; have GE634 := n3_; clear n0_ n1_ n2_ n3_; clear hb hbox hg))
 go_loopg [3, 4] k (fun kq v3 v4 w' => ∃ (x3_1 : List Int) (x4_1 : Int), v4 = .int .i64 x4_1 ∧ Aside0 (spec_boCells.l0 kq x3_1 x4_1 a0_0 a0_1 l0_2 = some r) ∧ Aside0 (kq ≤ k) ∧ Aside0 (Kd.R (Kd.int .i64) 3 w' w.heap.size (fun _ => True) v3 x3_1) ∧ Aside0 (w'.heap[gb634]? = some (.cells #[.int .i64 a0_0, .int .i64 a0_1, (.slice A0_2 l0_2.length c0_2)] 30 (0, 0))) ∧ Aside0 (Below w.heap.size w w'))
 case atStart => exact ⟨(([] : List Int)), (0), zag13, H', ⟨Nat.le_refl _⟩, ⟨zag14⟩, ⟨zag7⟩, ⟨zag2⟩⟩
 case round =>
  clear H'
  try clear p2
  obtain ⟨x3_1, x4_1, rfl, HA, HK1, HO_3, BK634, HB⟩ := hrel
  cases gk with
  | zero => exact absurd HA.out (by simp [spec_boCells.l0])
  | succ k1 =>
   have H := HA.out
   clear HA
   simp only [spec_boCells.l0] at H
   by_cases c3 : x4_1 < (wrap64 (a0_0 * a0_1))
   rotate_left
   ·rw [if_neg c3] at H
    have c3b0 : decide (x4_1 < (wrap64 (a0_0 * a0_1))) = false := decide_eq_false c3
    clear c3
    obtain rfl := Option.some.inj H
    have hcz12_0 : wr.cell? ⟨gb634, 0, none⟩ = some (.int .i64 a0_0) := (blk_cell BK634.out 0).trans rfl
    have hcz12_1 : wr.cell? ⟨gb634, 1, none⟩ = some (.int .i64 a0_1) := (blk_cell BK634.out 1).trans rfl
    have hcz12_2 : wr.cell? ⟨gb634, 2, none⟩ = some (.slice A0_2 l0_2.length c0_2) := (blk_cell BK634.out 2).trans rfl
    have hfz12_0 := blk_frozen BK634.out 0
    have hfz12_1 := blk_frozen BK634.out 1
    have hfz12_2 := blk_frozen BK634.out 2
    go_wp2
    go_ret
    exact ⟨_, by first | rfl | (simp [errW_none, errW_some] <;> rfl) | (simp [*, errW_none, errW_some] <;> rfl), zag9, zag2⟩
   rw [if_pos c3] at H
   have c3b0 : decide (x4_1 < (wrap64 (a0_0 * a0_1))) = true := decide_eq_true c3
   clear c3
   replace H := Option.bind_eq_some_iff.mp H
   obtain ⟨t635, A40, H⟩ := H
   replace H : (if t635 = true then (if x3_1.length < 17592186044416 then (spec_boCells.l0 k1 (x3_1 ++ [x4_1]) (wrap64 (x4_1 + 1)) a0_0 a0_1 l0_2) else (none)) else (spec_boCells.l0 k1 x3_1 (wrap64 (x4_1 + 1)) a0_0 a0_1 l0_2)) = some r := H
   have A4 := Aside0.mk A40
   clear A40
   by_cases c5 : t635 = true
   rotate_left
   ·replace c5 := Bool.eq_false_iff.mpr c5
    subst c5
    have H1 : (spec_boCells.l0 k1 x3_1 (wrap64 (x4_1 + 1)) a0_0 a0_1 l0_2) = some r := by rw [if_neg (show ¬ (false = true) by decide)] at H; exact H
    clear H
    have H := H1
    clear H1
    have H' := Aside0.mk H
    clear H
    have hcz10_0 : wr.cell? ⟨gb634, 0, none⟩ = some (.int .i64 a0_0) := (blk_cell BK634.out 0).trans rfl
    have hcz10_1 : wr.cell? ⟨gb634, 1, none⟩ = some (.int .i64 a0_1) := (blk_cell BK634.out 1).trans rfl
    have hcz10_2 : wr.cell? ⟨gb634, 2, none⟩ = some (.slice A0_2 l0_2.length c0_2) := (blk_cell BK634.out 2).trans rfl
    have hfz10_0 := blk_frozen BK634.out 0
    have hfz10_1 := blk_frozen BK634.out 1
    have hfz10_2 := blk_frozen BK634.out 2
    go_wp2_with (first | ((with_reducible refine gate_callee (f := 64) rfl ?_); refine goesL_ (some 16) rfl rfl Try.func64 (by kernel_rfl) rfl #[.agg #[.int .i64 a0_0, .int .i64 a0_1, .slice A0_2 l0_2.length c0_2], .int .i64 x4_1] rfl zag8 ?_; (with_reducible refine (spec_boHas.calls k1 a0_0 a0_1 _ _ l0_2 x4_1 false _ ?side1 ?side2 A4.out).mono ?_); (case side1 => exact zag5); (case side2 => exact HC0_2.out); rintro e w11 ⟨rfl, hb⟩; refine ⟨_, rfl, ?_⟩; have n0_ := Aside0.mk (Kd.R_below zag9 hb); have n1_ := Aside0.mk (blk_below (g := gb634) (o := .cells #[.int .i64 a0_0, .int .i64 a0_1, .slice A0_2 l0_2.length c0_2] 30 (0, 0)) zag7 hb); have n2_ := Aside0.mk (below_step zag2 hb); clear HO_3; clear BK634; clear HB; have HO_3 := n0_; have BK634 := n1_; have HB := n2_; clear n0_ n1_ n2_; (try clear hb); (try clear hb2); (try clear hk); (try clear hi); (try clear hna_); (try clear hnb_)))
    go_roundg k1
    case measure => have := HK1.out; omega
    case rel => exact ⟨(x3_1), (wrap64 (x4_1 + 1)), zag13, H', ⟨by have := HK1.out; omega⟩, ⟨zag9⟩, ⟨zag7⟩, ⟨zag2⟩⟩
   subst c5
   have H1 : (if x3_1.length < 17592186044416 then (spec_boCells.l0 k1 (x3_1 ++ [x4_1]) (wrap64 (x4_1 + 1)) a0_0 a0_1 l0_2) else (none)) = some r := by rw [if_pos rfl] at H; exact H
   clear H
   have H := H1
   clear H1
   by_cases c6 : x3_1.length < 17592186044416
   rotate_left
   ·rw [if_neg c6] at H
    exact absurd H (by simp)
   rw [if_pos c6] at H
   have LMc6 := Aside0.mk c6
   clear c6
   obtain ⟨y636, hy636⟩ : ∃ y_ : List Int, y_ = (x3_1 ++ [x4_1]) := ⟨_, rfl⟩
   replace H : (spec_boCells.l0 k1 y636 (wrap64 (x4_1 + 1)) a0_0 a0_1 l0_2) = some r := by first | (rw [hy636]; with_reducible exact H) | (have H2_ := (Option.bind_some _ _).symm.trans H; rw [hy636]; with_reducible exact H2_) | (have H2_ := (Option.bind_some _ _).symm.trans H; with_reducible exact H2_) | with_reducible exact H | (rw [hy636]; exact H) | exact H
   have Ny636 := Aside0.mk hy636
   clear hy636
   have H' := Aside0.mk H
   clear H
   have hcz7_0 : wr.cell? ⟨gb634, 0, none⟩ = some (.int .i64 a0_0) := (blk_cell BK634.out 0).trans rfl
   have hcz7_1 : wr.cell? ⟨gb634, 1, none⟩ = some (.int .i64 a0_1) := (blk_cell BK634.out 1).trans rfl
   have hcz7_2 : wr.cell? ⟨gb634, 2, none⟩ = some (.slice A0_2 l0_2.length c0_2) := (blk_cell BK634.out 2).trans rfl
   have hfz7_0 := blk_frozen BK634.out 0
   have hfz7_1 := blk_frozen BK634.out 1
   have hfz7_2 := blk_frozen BK634.out 2
   go_wp2_with (first | ((with_reducible refine gate_callee (f := 64) rfl ?_); refine goesL_ (some 16) rfl rfl Try.func64 (by kernel_rfl) rfl #[.agg #[.int .i64 a0_0, .int .i64 a0_1, .slice A0_2 l0_2.length c0_2], .int .i64 x4_1] rfl zag8 ?_; (with_reducible refine (spec_boHas.calls k1 a0_0 a0_1 _ _ l0_2 x4_1 true _ ?side1 ?side2 A4.out).mono ?_); (case side1 => exact zag5); (case side2 => exact HC0_2.out); rintro e w8 ⟨rfl, hb⟩; refine ⟨_, rfl, ?_⟩; have n0_ := Aside0.mk (Kd.R_below zag9 hb); have n1_ := Aside0.mk (blk_below (g := gb634) (o := .cells #[.int .i64 a0_0, .int .i64 a0_1, .slice A0_2 l0_2.length c0_2] 30 (0, 0)) zag7 hb); have n2_ := Aside0.mk (below_step zag2 hb); clear HO_3; clear BK634; clear HB; have HO_3 := n0_; have BK634 := n1_; have HB := n2_; clear n0_ n1_ n2_; (try clear hb); (try clear hb2); (try clear hk); (try clear hi); (try clear hna_); (try clear hnb_)) | ((with_reducible refine gate_builtin (b := .append) (xs := #[.tmp 17, .tmp 19]) rfl ?_); at_builtin; refine Kd.R_append (Kd.int .i64) (w0 := w) w.heap.size rfl (.tmp 17) (.tmp 19) 22 3 (.int .i64 0) 8 rfl Try.underlying22 info3 rfl (by decide) (by omega) u3 x3_1 x4_1 [.int .i64 x4_1] (fun _ => True) (fun _ => False) rfl rfl ?aP (fun _ hk => hk.elim) ?aF ?aO ?aB ?aS ?aL ?_; (case aP => exact rfl); (case aB => exact zag2); (case aF => exact (fun _ _ => trivial)); (case aO => exact zag9); (case aS => exact (below_size zag2)); (case aL => have := LMc6.out; omega); intro v637 w9 ho hb hg hat; rw [← Ny636.out] at ho; have n0_ := Aside0.mk (blk_grown (g := gb634) (o := .cells #[.int .i64 a0_0, .int .i64 a0_1, .slice A0_2 l0_2.length c0_2] 30 (0, 0)) zag7 hg (Kd.R_ne HO_3.out BK634.out (by decide))); have n1_ := Aside0.mk (hb); have n2_ := Aside0.mk (ho); clear BK634; clear HB; clear HO_3; have BK634 := n0_; have HB := n1_; have HO638 := n2_; clear n0_ n1_ n2_; clear ho hb hg hat))
   go_roundg k1
   case measure => have := HK1.out; omega
   case rel => exact ⟨(y636), (wrap64 (x4_1 + 1)), zag13, H', ⟨by have := HK1.out; omega⟩, ⟨by first | exact HO638.out | ((with_reducible repeat (first | apply Kd.R_alloc | apply Kd.R_drewN | apply Kd.R_drew)); exact HO638.out)⟩, ⟨zag7⟩, ⟨zag2⟩⟩

/-! ### spec_boLeaps: function 87 -/
def spec_boLeaps.l0 : Nat → Int → List Int → List Int → Int → Int → Int → Int → List Int → Int → Int → Option (List Int)
 | 0, _, _, _, _, _, _, _, _, _, _ => none
 | k + 1, x2, x7, x11, x12, x13, x640000, x640001, x640002, x641000, x641001 => if x13 < x12 then (if 0 ≤ x13 then (if x13 < (x11.length : Int) then ((spec_boIs.f x640000 x640001 x640002 x641000 x641001 x2 (rd x11 x13)).bind fun t645 => (if t645 = true then (if x7.length < 17592186044416 then (spec_boLeaps.l0 k x2 (x7 ++ [rd x11 x13]) x11 x12 (wrap64 (x13 + 1)) x640000 x640001 x640002 x641000 x641001) else (none)) else (spec_boLeaps.l0 k x2 x7 x11 x12 (wrap64 (x13 + 1)) x640000 x640001 x640002 x641000 x641001))) else (none)) else (none)) else (some x7)
def spec_boLeaps.f (k : Nat) (a0_0 : Int) (a0_1 : Int) (l0_2 : List Int) (a1_0 : Int) (a1_1 : Int) (a2 : Int) : Option (List Int) := (spec_boCells.f k a0_0 a0_1 l0_2).bind fun t641 => (spec_boLeaps.l0 k a2 ([] : List Int) t641 (t641.length : Int) 0 a0_0 a0_1 l0_2 a1_0 a1_1)
set_option maxHeartbeats 8000000 in
set_option maxRecDepth 100000 in
theorem spec_boLeaps.calls (k : Nat) (a0_0 : Int) (a0_1 : Int) (A0_2 : Option Addr) (c0_2 : Nat) (l0_2 : List Int) (a1_0 : Int) (a1_1 : Int) (a2 : Int) (r : List Int) (w : World) (hr0_2 : Kd.C (Kd.int .i64) w A0_2 l0_2.length l0_2) (hc0_2 : l0_2.length ≤ c0_2) (h : spec_boLeaps.f k a0_0 a0_1 l0_2 a1_0 a1_1 a2 = some r) :
  Calls Try.prog 87 #[.agg #[.int .i64 a0_0, .int .i64 a0_1, .slice A0_2 l0_2.length c0_2], .agg #[.int .i64 a1_0, .int .i64 a1_1], .int .i64 a2] w fun e w' => ∃ v0_ : Value, e = .returned (v0_) ∧ Kd.R (Kd.int .i64) 3 w' w.heap.size (fun _ => True) v0_ r ∧ Below w.heap.size w w' := by
 have hu30 := Try.underlying30
 have hu32 := Try.underlying32
 have HR0_2 := Aside0.mk hr0_2
 have HC0_2 := Aside0.mk hc0_2
 clear hr0_2 hc0_2
 have HB := Aside0.mk (Below.refl w.heap.size w)
 have H : ((spec_boCells.f k a0_0 a0_1 l0_2).bind fun t641 => (spec_boLeaps.l0 k a2 ([] : List Int) t641 (t641.length : Int) 0 a0_0 a0_1 l0_2 a1_0 a1_1)) = some r := h
 clear h
 replace H := Option.bind_eq_some_iff.mp H
 obtain ⟨t641, A40, H⟩ := H
 replace H : (spec_boLeaps.l0 k a2 ([] : List Int) t641 (t641.length : Int) 0 a0_0 a0_1 l0_2 a1_0 a1_1) = some r := H
 have A4 := Aside0.mk A40
 clear A40
 have H' := Aside0.mk H
 clear H
 go_enter Try.func87, Try.ntmps87
 go_wp2_with (first | ((with_reducible refine gate_dst (N := 3) rfl ?_); refine box_event ?hg (N := 3) ?hd (cs := #[.int .i64 a0_0, .int .i64 a0_1, .slice A0_2 l0_2.length c0_2]) (t := 30) ?hr ?_; (case hd => rfl); (case hg => rfl); (case hr => first | (go_simp; done) | (go_simp; rfl)); intro gb639 hg w5 hbox hb; have n0_ := Aside0.mk (below_step zag6 hb); have n1_ := Aside0.mk (hbox); have n2_ := Aside0.mk ((by rw [hg]; exact (below_size zag6) : w.heap.size ≤ gb639)); have n3_ := Aside0.mk ((by rw [hg]; exact (below_size zag6) : w.heap.size ≤ gb639)); clear HB; have HB := n0_; have BK639 := n1_; have GW639 := n2_; have GE639 := n3_; clear n0_ n1_ n2_ n3_; clear hb hbox hg) | ((with_reducible refine gate_dst (N := 4) rfl ?_); refine box_event ?hg (N := 4) ?hd (cs := #[.int .i64 a1_0, .int .i64 a1_1]) (t := 32) ?hr ?_; (case hd => rfl); (case hg => rfl); (case hr => first | (go_simp; done) | (go_simp; rfl)); intro gb640 hg w6 hbox hb; have n0_ := Aside0.mk (blk_below (g := gb639) (o := .cells #[.int .i64 a0_0, .int .i64 a0_1, .slice A0_2 l0_2.length c0_2] 30 (0, 0)) zag3 hb); have n1_ := Aside0.mk (below_step zag10 hb); have n2_ := Aside0.mk (hbox); have n3_ := Aside0.mk ((by rw [hg]; exact (below_size zag10) : w.heap.size ≤ gb640)); have n4_ := Aside0.mk ((by rw [hg]; exact (below_size zag10) : w.heap.size ≤ gb640)); have n5_ := Aside0.mk ((by rw [hg]; exact Nat.ne_of_lt (blk_lt (g := gb639) (o := .cells #[.int .i64 a0_0, .int .i64 a0_1, .slice A0_2 l0_2.length c0_2] 30 (0, 0)) zag3) : gb639 ≠ gb640)); have n6_ := Aside0.mk ((by rw [hg]; exact Nat.ne_of_gt (blk_lt (g := gb639) (o := .cells #[.int .i64 a0_0, .int .i64 a0_1, .slice A0_2 l0_2.length c0_2] 30 (0, 0)) zag3) : gb640 ≠ gb639)); clear BK639; clear HB; have BK639 := n0_; have HB := n1_; have BK640 := n2_; have GW640 := n3_; have GE640 := n4_; have NB639_640 := n5_; have NB640_639 := n6_; clear n0_ n1_ n2_ n3_ n4_ n5_ n6_; clear hb hbox hg; have hnb7 := NB639_640.out; have hnc7 := NB640_639.out; have hcz8_0 : w6.cell? ⟨gb639, 0, none⟩ = some (.int .i64 a0_0) := (blk_cell BK639.out 0).trans rfl; have hcz8_1 : w6.cell? ⟨gb639, 1, none⟩ = some (.int .i64 a0_1) := (blk_cell BK639.out 1).trans rfl; have hcz8_2 : w6.cell? ⟨gb639, 2, none⟩ = some (.slice A0_2 l0_2.length c0_2) := (blk_cell BK639.out 2).trans rfl; have hfz8_0 := blk_frozen BK639.out 0; have hfz8_1 := blk_frozen BK639.out 1; have hfz8_2 := blk_frozen BK639.out 2) | ((with_reducible refine gate_callee (f := 56) rfl ?_); refine goesL_ (some 11) rfl rfl Try.func56 (by kernel_rfl) rfl #[.agg #[.int .i64 a0_0, .int .i64 a0_1, .slice A0_2 l0_2.length c0_2]] rfl zag8 ?_; (with_reducible refine (spec_boCells.calls k a0_0 a0_1 _ _ l0_2 t641 _ ?side1 ?side2 A4.out).mono ?_); (case side1 => exact zag5); (case side2 => exact HC0_2.out); rintro e w9 ⟨v642, rfl, ho0, hb⟩; refine ⟨_, rfl, ?_⟩; have n0_ := Aside0.mk (Kd.R_lower ho0 (below_size zag1)); have n1_ := Aside0.mk (blk_below (g := gb639) (o := .cells #[.int .i64 a0_0, .int .i64 a0_1, .slice A0_2 l0_2.length c0_2] 30 (0, 0)) zag3 hb); have n2_ := Aside0.mk (blk_below (g := gb640) (o := .cells #[.int .i64 a1_0, .int .i64 a1_1] 32 (0, 0)) zag4 hb); have n3_ := Aside0.mk (below_step zag1 hb); clear BK639; clear BK640; clear HB; have HO643 := n0_; have BK639 := n1_; have BK640 := n2_; have HB := n3_; clear n0_ n1_ n2_ n3_; (try clear hb); (try clear hb2); (try clear hk); (try clear hi); (try clear ho0); (try clear hna_); (try clear hnb_); obtain ⟨Ao10, co10, eo10⟩ := Kd.R_slice HO643.out; subst eo10))
 go_loopg [7, 13] k (fun kq v7 v13 w' => ∃ (x7_1 : List Int) (x13_1 : Int), v13 = .int .i64 x13_1 ∧ Aside0 (spec_boLeaps.l0 kq a2 x7_1 t641 (t641.length : Int) x13_1 a0_0 a0_1 l0_2 a1_0 a1_1 = some r) ∧ Aside0 (kq ≤ k) ∧ Aside0 (Kd.R (Kd.int .i64) 3 w' w.heap.size (fun k_ => some k_ ≠ ((.slice Ao10 t641.length co10) : Value).ownBlock) v7 x7_1) ∧ Aside0 (Kd.R (Kd.int .i64) 3 w' w.heap.size (fun k_ => some k_ ≠ (v7 : Value).ownBlock) (.slice Ao10 t641.length co10) t641) ∧ Aside0 (w'.heap[gb639]? = some (.cells #[.int .i64 a0_0, .int .i64 a0_1, (.slice A0_2 l0_2.length c0_2)] 30 (0, 0))) ∧ Aside0 (w'.heap[gb640]? = some (.cells #[.int .i64 a1_0, .int .i64 a1_1] 32 (0, 0))) ∧ Aside0 (Below w.heap.size w w'))
 case atStart => exact ⟨(([] : List Int)), (0), zag13, H', ⟨Nat.le_refl _⟩, ⟨zag14⟩, ⟨by (with_reducible repeat (first | apply Kd.R_alloc | apply Kd.R_drewN | apply Kd.R_drew)); exact Kd.R_mono HO643.out (fun _ hk => (by simp [Value.ownBlock]))⟩, ⟨zag3⟩, ⟨zag4⟩, ⟨zag1⟩⟩
 case round =>
  clear H'
  try clear p2; try clear c5; try clear c7; try clear c8; try clear hcz8_0; try clear hcz8_1; try clear hcz8_2; try clear hfz8_0; try clear hfz8_1; try clear hfz8_2
  obtain ⟨x7_1, x13_1, rfl, HA, HK1, HO_7, HO_11, BK639, BK640, HB⟩ := hrel
  cases gk with
  | zero => exact absurd HA.out (by simp [spec_boLeaps.l0])
  | succ k1 =>
   have H := HA.out
   clear HA
   simp only [spec_boLeaps.l0] at H
   by_cases c11 : x13_1 < (t641.length : Int)
   rotate_left
   ·rw [if_neg c11] at H
    have c11b0 : decide (x13_1 < (t641.length : Int)) = false := decide_eq_false c11
    clear c11
    obtain rfl := Option.some.inj H
    go_wp2
    go_ret
    exact ⟨_, by first | rfl | (simp [errW_none, errW_some] <;> rfl) | (simp [*, errW_none, errW_some] <;> rfl), by (with_reducible repeat (first | apply Kd.R_alloc | apply Kd.R_drewN | apply Kd.R_drew)); exact Kd.R_mono HO_7.out (fun _ hk => trivial), zag1⟩
   rw [if_pos c11] at H
   have c11b0 : decide (x13_1 < (t641.length : Int)) = true := decide_eq_true c11
   clear c11
   by_cases c12 : 0 ≤ x13_1
   rotate_left
   ·rw [if_neg c12] at H
    exact absurd H (by simp)
   rw [if_pos c12] at H
   have c12b0 : decide (0 ≤ x13_1) = true := decide_eq_true c12
   clear c12
   by_cases c13 : x13_1 < (t641.length : Int)
   rotate_left
   ·rw [if_neg c13] at H
    exact absurd H (by simp)
   rw [if_pos c13] at H
   have c13b0 : decide (x13_1 < (t641.length : Int)) = true := decide_eq_true c13
   clear c13
   replace H := Option.bind_eq_some_iff.mp H
   obtain ⟨t645, A140, H⟩ := H
   replace H : (if t645 = true then (if x7_1.length < 17592186044416 then (spec_boLeaps.l0 k1 a2 (x7_1 ++ [rd t641 x13_1]) t641 (t641.length : Int) (wrap64 (x13_1 + 1)) a0_0 a0_1 l0_2 a1_0 a1_1) else (none)) else (spec_boLeaps.l0 k1 a2 x7_1 t641 (t641.length : Int) (wrap64 (x13_1 + 1)) a0_0 a0_1 l0_2 a1_0 a1_1)) = some r := H
   have A14 := Aside0.mk A140
   clear A140
   by_cases c15 : t645 = true
   rotate_left
   ·replace c15 := Bool.eq_false_iff.mpr c15
    subst c15
    have H1 : (spec_boLeaps.l0 k1 a2 x7_1 t641 (t641.length : Int) (wrap64 (x13_1 + 1)) a0_0 a0_1 l0_2 a1_0 a1_1) = some r := by rw [if_neg (show ¬ (false = true) by decide)] at H; exact H
    clear H
    have H := H1
    clear H1
    have H' := Aside0.mk H
    clear H
    have p644 : 0 ≤ (x13_1 : Int) := of_decide_eq_true zag15
    have q644 : x13_1 < (t641.length : Int) := of_decide_eq_true zag15
    obtain ⟨ad644, e644, hx644_0⟩ := Kd.at_int (Kd.R_reads' HO_11.out).2.2 x13_1 p644 q644
    cases e644
    replace p644 := eq_true p644
    replace q644 := eq_true q644
    have hnb22 := NB639_640.out
    have hnc22 := NB640_639.out
    have hcz23_0 : wr.cell? ⟨gb639, 0, none⟩ = some (.int .i64 a0_0) := (blk_cell BK639.out 0).trans rfl
    have hcz23_1 : wr.cell? ⟨gb639, 1, none⟩ = some (.int .i64 a0_1) := (blk_cell BK639.out 1).trans rfl
    have hcz23_2 : wr.cell? ⟨gb639, 2, none⟩ = some (.slice A0_2 l0_2.length c0_2) := (blk_cell BK639.out 2).trans rfl
    have hfz23_0 := blk_frozen BK639.out 0
    have hfz23_1 := blk_frozen BK639.out 1
    have hfz23_2 := blk_frozen BK639.out 2
    have hcz24_0 : wr.cell? ⟨gb640, 0, none⟩ = some (.int .i64 a1_0) := (blk_cell BK640.out 0).trans rfl
    have hcz24_1 : wr.cell? ⟨gb640, 1, none⟩ = some (.int .i64 a1_1) := (blk_cell BK640.out 1).trans rfl
    have hfz24_0 := blk_frozen BK640.out 0
    have hfz24_1 := blk_frozen BK640.out 1
    go_wp2_with (first | ((with_reducible refine gate_callee (f := 80) rfl ?_); refine goesL_ (some 21) rfl rfl Try.func80 (by kernel_rfl) rfl #[.agg #[.int .i64 a0_0, .int .i64 a0_1, .slice A0_2 l0_2.length c0_2], .agg #[.int .i64 a1_0, .int .i64 a1_1], .int .i64 a2, .int .i64 (rd t641 x13_1)] rfl zag8 ?_; (with_reducible refine (spec_boIs.calls a0_0 a0_1 _ _ l0_2 a1_0 a1_1 a2 (rd t641 x13_1) false _ ?side1 ?side2 A14.out).mono ?_); (case side1 => exact zag5); (case side2 => exact HC0_2.out); rintro e w25 ⟨rfl, hb⟩; refine ⟨_, rfl, ?_⟩; have n0_ := Aside0.mk (Kd.R_below zag12 hb); have n1_ := Aside0.mk (Kd.R_below zag11 hb); have n2_ := Aside0.mk (blk_below (g := gb639) (o := .cells #[.int .i64 a0_0, .int .i64 a0_1, .slice A0_2 l0_2.length c0_2] 30 (0, 0)) zag3 hb); have n3_ := Aside0.mk (blk_below (g := gb640) (o := .cells #[.int .i64 a1_0, .int .i64 a1_1] 32 (0, 0)) zag4 hb); have n4_ := Aside0.mk (below_step zag1 hb); clear HO_7; clear HO_11; clear BK639; clear BK640; clear HB; have HO_7 := n0_; have HO_11 := n1_; have BK639 := n2_; have BK640 := n3_; have HB := n4_; clear n0_ n1_ n2_ n3_ n4_; (try clear hb); (try clear hb2); (try clear hk); (try clear hi); (try clear hna_); (try clear hnb_)))
    go_roundg k1
    case measure => have := HK1.out; omega
    case rel => exact ⟨(x7_1), (wrap64 (x13_1 + 1)), zag13, H', ⟨by have := HK1.out; omega⟩, ⟨zag12⟩, ⟨zag11⟩, ⟨zag3⟩, ⟨zag4⟩, ⟨zag1⟩⟩
   subst c15
   have H1 : (if x7_1.length < 17592186044416 then (spec_boLeaps.l0 k1 a2 (x7_1 ++ [rd t641 x13_1]) t641 (t641.length : Int) (wrap64 (x13_1 + 1)) a0_0 a0_1 l0_2 a1_0 a1_1) else (none)) = some r := by rw [if_pos rfl] at H; exact H
   clear H
   have H := H1
   clear H1
   by_cases c16 : x7_1.length < 17592186044416
   rotate_left
   ·rw [if_neg c16] at H
    exact absurd H (by simp)
   rw [if_pos c16] at H
   have LMc16 := Aside0.mk c16
   clear c16
   obtain ⟨y646, hy646⟩ : ∃ y_ : List Int, y_ = (x7_1 ++ [rd t641 x13_1]) := ⟨_, rfl⟩
   replace H : (spec_boLeaps.l0 k1 a2 y646 t641 (t641.length : Int) (wrap64 (x13_1 + 1)) a0_0 a0_1 l0_2 a1_0 a1_1) = some r := by first | (rw [hy646]; with_reducible exact H) | (have H2_ := (Option.bind_some _ _).symm.trans H; rw [hy646]; with_reducible exact H2_) | (have H2_ := (Option.bind_some _ _).symm.trans H; with_reducible exact H2_) | with_reducible exact H | (rw [hy646]; exact H) | exact H
   have Ny646 := Aside0.mk hy646
   clear hy646
   have H' := Aside0.mk H
   clear H
   have p644 : 0 ≤ (x13_1 : Int) := of_decide_eq_true zag15
   have q644 : x13_1 < (t641.length : Int) := of_decide_eq_true zag15
   obtain ⟨ad644, e644, hx644_0⟩ := Kd.at_int (Kd.R_reads' HO_11.out).2.2 x13_1 p644 q644
   cases e644
   replace p644 := eq_true p644
   replace q644 := eq_true q644
   have hnb17 := NB639_640.out
   have hnc17 := NB640_639.out
   have hcz18_0 : wr.cell? ⟨gb639, 0, none⟩ = some (.int .i64 a0_0) := (blk_cell BK639.out 0).trans rfl
   have hcz18_1 : wr.cell? ⟨gb639, 1, none⟩ = some (.int .i64 a0_1) := (blk_cell BK639.out 1).trans rfl
   have hcz18_2 : wr.cell? ⟨gb639, 2, none⟩ = some (.slice A0_2 l0_2.length c0_2) := (blk_cell BK639.out 2).trans rfl
   have hfz18_0 := blk_frozen BK639.out 0
   have hfz18_1 := blk_frozen BK639.out 1
   have hfz18_2 := blk_frozen BK639.out 2
   have hcz19_0 : wr.cell? ⟨gb640, 0, none⟩ = some (.int .i64 a1_0) := (blk_cell BK640.out 0).trans rfl
   have hcz19_1 : wr.cell? ⟨gb640, 1, none⟩ = some (.int .i64 a1_1) := (blk_cell BK640.out 1).trans rfl
   have hfz19_0 := blk_frozen BK640.out 0
   have hfz19_1 := blk_frozen BK640.out 1
   go_wp2_with (first | ((with_reducible refine gate_callee (f := 80) rfl ?_); refine goesL_ (some 21) rfl rfl Try.func80 (by kernel_rfl) rfl #[.agg #[.int .i64 a0_0, .int .i64 a0_1, .slice A0_2 l0_2.length c0_2], .agg #[.int .i64 a1_0, .int .i64 a1_1], .int .i64 a2, .int .i64 (rd t641 x13_1)] rfl zag8 ?_; (with_reducible refine (spec_boIs.calls a0_0 a0_1 _ _ l0_2 a1_0 a1_1 a2 (rd t641 x13_1) true _ ?side1 ?side2 A14.out).mono ?_); (case side1 => exact zag5); (case side2 => exact HC0_2.out); rintro e w20 ⟨rfl, hb⟩; refine ⟨_, rfl, ?_⟩; have n0_ := Aside0.mk (Kd.R_below zag12 hb); have n1_ := Aside0.mk (Kd.R_below zag11 hb); have n2_ := Aside0.mk (blk_below (g := gb639) (o := .cells #[.int .i64 a0_0, .int .i64 a0_1, .slice A0_2 l0_2.length c0_2] 30 (0, 0)) zag3 hb); have n3_ := Aside0.mk (blk_below (g := gb640) (o := .cells #[.int .i64 a1_0, .int .i64 a1_1] 32 (0, 0)) zag4 hb); have n4_ := Aside0.mk (below_step zag1 hb); clear HO_7; clear HO_11; clear BK639; clear BK640; clear HB; have HO_7 := n0_; have HO_11 := n1_; have BK639 := n2_; have BK640 := n3_; have HB := n4_; clear n0_ n1_ n2_ n3_ n4_; (try clear hb); (try clear hb2); (try clear hk); (try clear hi); (try clear hna_); (try clear hnb_)) | ((with_reducible refine gate_builtin (b := .append) (xs := #[.tmp 22, .tmp 24]) rfl ?_); at_builtin; refine Kd.R_append (Kd.int .i64) (w0 := w) w.heap.size rfl (.tmp 22) (.tmp 24) 22 3 (.int .i64 0) 8 rfl Try.underlying22 info3 rfl (by decide) (by omega) u7 x7_1 (rd t641 x13_1) [.int .i64 (rd t641 x13_1)] (fun k_ => some k_ ≠ (.slice (some ad644) t641.length co10 : Value).ownBlock) (fun _ => False) rfl rfl ?aP (fun _ hk => hk.elim) ?aF ?aO ?aB ?aS ?aL ?_; (case aP => exact rfl); (case aB => exact zag1); (case aF => exact (fun k_ hk => Kd.fresh' (Kd.R_lt zag11) k_ hk)); (case aO => exact zag12); (case aS => exact (below_size zag1)); (case aL => have := LMc16.out; omega); intro v647 w21 ho hb hg hat; rw [← Ny646.out] at ho; have n0_ := Aside0.mk (Kd.R_after (ok := (fun _ => True)) (by (with_reducible repeat (first | apply Kd.R_alloc | apply Kd.R_drewN | apply Kd.R_drew)); exact Kd.R_mono HO_11.out (fun _ hk => ⟨trivial, hk⟩)) hg hat); have n1_ := Aside0.mk (blk_grown (g := gb639) (o := .cells #[.int .i64 a0_0, .int .i64 a0_1, .slice A0_2 l0_2.length c0_2] 30 (0, 0)) zag3 hg (Kd.R_ne HO_7.out BK639.out (by decide))); have n2_ := Aside0.mk (blk_grown (g := gb640) (o := .cells #[.int .i64 a1_0, .int .i64 a1_1] 32 (0, 0)) zag4 hg (Kd.R_ne HO_7.out BK640.out (by decide))); have n3_ := Aside0.mk (hb); have n4_ := Aside0.mk (ho); clear HO_11; clear BK639; clear BK640; clear HB; clear HO_7; have HO_11 := n0_; have BK639 := n1_; have BK640 := n2_; have HB := n3_; have HO648 := n4_; clear n0_ n1_ n2_ n3_ n4_; clear ho hb hg hat))
   go_roundg k1
   case measure => have := HK1.out; omega
   case rel => exact ⟨(y646), (wrap64 (x13_1 + 1)), zag13, H', ⟨by have := HK1.out; omega⟩, ⟨by first | exact HO648.out | ((with_reducible repeat (first | apply Kd.R_alloc | apply Kd.R_drewN | apply Kd.R_drew)); exact HO648.out)⟩, ⟨by (with_reducible repeat (first | apply Kd.R_alloc | apply Kd.R_drewN | apply Kd.R_drew)); exact Kd.R_mono HO_11.out (fun _ hk => hk.2)⟩, ⟨zag3⟩, ⟨zag4⟩, ⟨zag1⟩⟩

end Go.Proofs.Ytbecdckdbeoomaa.Q

/- Written by a program of this session: functions of the translation as plain Lean functions, each with a proof that the call does what the plain function says; the conditions stand in each theorem. -/
import Derived.Test.YtemaokhlolimhaaQ0
import Derived.Test.YtemaokhlolimhaaQ1
namespace Go.Proofs.Ytemaokhlolimhaa.Q
open Go.RowKit Go.Proofs.YtemaokhlolimhaaW.PrintWords Go.Proofs.YtemaokhlolimhaaW.PrintLast Go.Proofs.YtemaokhlolimhaaW.PrintMore
attribute [local go_sem] max2_int min2_int max_two min_two max_three min_three max_four min_four   -- for this text's walks alone
set_option linter.unusedVariables false
set_option linter.unusedSimpArgs false

theorem zc1 {p : Prop} (h : p := by repeat (first | (with_reducible first | exact HB.out | apply below_alloc | apply pw_below_drewN | apply below_drew1 | refine below_set ?_ GE143.out | refine below_set ?_ GE144.out) | exact HB.out)) : p := h
theorem zc2 {p : Prop} (h : p := by repeat (first | (with_reducible first | exact HB.out | apply below_alloc | apply pw_below_drewN | apply below_drew1) | exact HB.out)) : p := h
theorem zc3 {p : Prop} (h : p := by repeat (first | (with_reducible first | exact HB.out | apply below_alloc | apply pw_below_drewN | apply below_drew1 | refine below_set ?_ GE129.out) | exact HB.out)) : p := h
theorem zc4 {p : Prop} (h : p := by first | exact BK129.out | ((with_reducible repeat (first | refine blk_drewN ?_ _ | refine blk_drew ?_ | refine blk_alloc ?_ _)); exact BK129.out)) : p := h
theorem zc5 {p : Prop} (h : p := by first | exact BK143.out | ((with_reducible repeat (first | refine blk_drewN ?_ _ | refine blk_drew ?_ | refine blk_alloc ?_ _)); exact BK143.out)) : p := h
theorem zc6 {p : Prop} (h : p := by first | exact BK144.out | ((with_reducible repeat (first | refine blk_drewN ?_ _ | refine blk_drew ?_ | refine blk_alloc ?_ _)); exact BK144.out)) : p := h
theorem zc7 {p : Prop} (h : p := by repeat (first | exact (Kd.C_below HR0_2.out HB.out) | (with_reducible refine Kd.C_alloc ?_ _) | (with_reducible refine Kd.C_drewN ?_ _) | (with_reducible refine Kd.C_drew ?_))) : p := h
theorem zc8 {p : Prop} (h : p := by first | exact HO_16.out | ((with_reducible repeat (first | apply Kd.R_alloc | apply Kd.R_drewN | apply Kd.R_drew)); exact HO_16.out)) : p := h
theorem zc9 {p : Prop} (h : p := by first | exact HO_25.out | ((with_reducible repeat (first | apply Kd.R_alloc | apply Kd.R_drewN | apply Kd.R_drew)); exact HO_25.out)) : p := h
theorem zc10 {p : Prop} (h : p := by repeat (first | (with_reducible first | exact HB.out | apply below_alloc | apply pw_below_drewN | apply below_drew1 | refine below_set ?_ GE133.out | refine below_set ?_ GE134.out) | exact HB.out)) : p := h
theorem zc11 {p : Prop} (h : p := by first | exact HO_6.out | ((with_reducible repeat (first | apply Kd.S_alloc | apply Kd.S_drewN | apply Kd.S_drew)); exact HO_6.out)) : p := h
theorem zc12 {p : Prop} (h : p := by (try simp only [List.map_toArray, List.map_cons, List.map_nil]); first | done | rfl | (simp only [List.length_drop, List.length_take]; rfl)) : p := h
theorem zc13 {p : Prop} (h : p := by repeat (first | (with_reducible first | exact HB.out | apply below_alloc | apply pw_below_drewN | apply below_drew1 | refine below_set ?_ GE123.out) | exact HB.out)) : p := h
theorem zc14 {p : Prop} (h : p := by first | exact HO156.out | ((with_reducible repeat (first | apply Kd.R_alloc | apply Kd.R_drewN | apply Kd.R_drew)); exact HO156.out)) : p := h
theorem zc15 {p : Prop} (h : p := by first | exact BK133.out | ((with_reducible repeat (first | refine blk_drewN ?_ _ | refine blk_drew ?_ | refine blk_alloc ?_ _)); exact BK133.out)) : p := h
theorem zc16 {p : Prop} (h : p := by repeat (first | (with_reducible first | exact HB.out | apply below_alloc | apply pw_below_drewN | apply below_drew1 | refine below_set ?_ GE143.out) | exact HB.out)) : p := h
theorem zc17 {p : Prop} (h : p := by repeat (first | (with_reducible first | exact HB.out | apply below_alloc | apply pw_below_drewN | apply below_drew1 | refine below_set ?_ GE129.out | refine below_set ?_ GE130.out) | exact HB.out)) : p := h
theorem zc18 {p : Prop} (h : p := by first | rfl | (simp [errW_none, errW_some] <;> rfl) | (simp [*, errW_none, errW_some] <;> rfl)) : p := h
theorem zc19 {p : Prop} (h : p := by first | exact BK134.out | ((with_reducible repeat (first | refine blk_drewN ?_ _ | refine blk_drew ?_ | refine blk_alloc ?_ _)); exact BK134.out)) : p := h
theorem zc20 {p : Prop} (h : p := by first | rfl | (simp; done) | (simp [*]; done)) : p := h
theorem zc21 {p : Prop} (h : p := by first | (with_reducible assumption) | assumption) : p := h
theorem zc22 {p : Prop} (h : p := by first | exact BK123.out | ((with_reducible repeat (first | refine blk_drewN ?_ _ | refine blk_drew ?_ | refine blk_alloc ?_ _)); exact BK123.out)) : p := h
theorem zc23 {p : Prop} (h : p := by first | exact HO_3.out | ((with_reducible repeat (first | apply Kd.R_alloc | apply Kd.R_drewN | apply Kd.R_drew)); exact HO_3.out)) : p := h
theorem zc24 {p : Prop} (h : p := by repeat (first | (with_reducible first | exact HB.out | apply below_alloc | apply pw_below_drewN | apply below_drew1 | refine below_set ?_ GE133.out) | exact HB.out)) : p := h
theorem zc25 {p : Prop} (h : p := by first | exact HO_11.out | ((with_reducible repeat (first | apply Kd.R_alloc | apply Kd.R_drewN | apply Kd.R_drew)); exact HO_11.out)) : p := h
theorem zc26 {p : Prop} (h : p := by first | exact HO165.out | ((with_reducible repeat (first | apply Kd.R_alloc | apply Kd.R_drewN | apply Kd.R_drew)); exact HO165.out)) : p := h
theorem zc27 {p : Prop} (h : p := by first | exact HO_7.out | ((with_reducible repeat (first | apply Kd.R_alloc | apply Kd.R_drewN | apply Kd.R_drew)); exact HO_7.out)) : p := h
theorem zc28 {p : Prop} (h : p := by have := HK1.out; have := HK2.out; omega) : p := h
theorem zc29 {p : Prop} (h : p := by first | exact Kd.S_nil _ _ _ _ _ | exact Kd.N_nil _ _ _ _ _ | exact Kd.V_nil _ _ _ _ _ | exact Kd.Q_nil _ _ _ _ _ | exact Kd.R_nil _ _ _ _ _) : p := h
theorem zc30 {p : Prop} (h : p := by first | exact Kd.R_nil _ _ _ _ _ | exact Kd.N_nil _ _ _ _ _ | exact Kd.V_nil _ _ _ _ _ | exact Kd.Q_nil _ _ _ _ _ | exact Kd.S_nil _ _ _ _ _) : p := h
theorem zc31 {p : Prop} (h : p := by (with_reducible repeat (first | apply Kd.R_alloc | apply Kd.R_drewN | apply Kd.R_drew)); exact Kd.R_mono HO_25.out (fun _ hk => hk.1.1)) : p := h
theorem zc32 {p : Prop} (h : p := by (with_reducible repeat (first | apply Kd.R_alloc | apply Kd.R_drewN | apply Kd.R_drew)); exact Kd.R_mono HO_16.out (fun _ hk => hk.1.1)) : p := h
theorem zc33 {p : Prop} (h : p := by rw [hg]; exact Nat.ne_of_lt (blk_lt (g := gb129) (o := .cells #[.int .i64 a0_0, .int .i64 a0_1, .slice A0_2 l0_2.length c0_2] 31 (0, 0)) zc4)) : p := h
theorem zc34 {p : Prop} (h : p := by rw [hg]; exact Nat.ne_of_gt (blk_lt (g := gb129) (o := .cells #[.int .i64 a0_0, .int .i64 a0_1, .slice A0_2 l0_2.length c0_2] 31 (0, 0)) zc4)) : p := h
theorem zc35 {p : Prop} (h : p := by rw [hg]; exact (below_size zc2)) : p := h
theorem zc36 {p : Prop} (h : p := by rw [hg]; exact (below_size zc3)) : p := h
theorem zc37 {p : Prop} (h : p := by rw [hg]; exact Nat.ne_of_lt (blk_lt (g := gb143) (o := .cells #[.int .i64 a0_0, .int .i64 a0_1, .slice A0_2 l0_2.length c0_2] 31 (0, 0)) zc5)) : p := h
theorem zc38 {p : Prop} (h : p := by rw [hg]; exact Nat.ne_of_gt (blk_lt (g := gb143) (o := .cells #[.int .i64 a0_0, .int .i64 a0_1, .slice A0_2 l0_2.length c0_2] 31 (0, 0)) zc5)) : p := h
/-! ### spec_boCells: function 29 -/
def spec_boCells.l0 : Nat → List Int → Int → Int → Int → List Int → Option (List Int)
 | 0, _, _, _, _, _ => none
 | k + 1, x3, x4, x124000, x124001, x124002 => if x4 < (wrap64 (x124000 * x124001)) then ((spec_boHas.f k x124000 x124001 x124002 x4).bind fun t124 => (if t124 = true then (if x3.length < 17592186044416 then (spec_boCells.l0 k (x3 ++ [x4]) (wrap64 (x4 + 1)) x124000 x124001 x124002) else (none)) else (spec_boCells.l0 k x3 (wrap64 (x4 + 1)) x124000 x124001 x124002))) else (some x3)
def spec_boCells.f (k : Nat) (a0_0 : Int) (a0_1 : Int) (l0_2 : List Int) : Option (List Int) := spec_boCells.l0 k ([] : List Int) 0 a0_0 a0_1 l0_2
set_option maxHeartbeats 8000000 in
set_option maxRecDepth 100000 in
theorem spec_boCells.calls (k : Nat) (a0_0 : Int) (a0_1 : Int) (A0_2 : Option Addr) (c0_2 : Nat) (l0_2 : List Int) (r : List Int) (w : World) (hr0_2 : Kd.C (Kd.int .i64) w A0_2 l0_2.length l0_2) (hc0_2 : l0_2.length ≤ c0_2) (h : spec_boCells.f k a0_0 a0_1 l0_2 = some r) :
  Calls Try.prog 29 #[.agg #[.int .i64 a0_0, .int .i64 a0_1, .slice A0_2 l0_2.length c0_2]] w fun e w' => ∃ v0_ : Value, e = .returned (v0_) ∧ Kd.R (Kd.int .i64) 3 w' w.heap.size (fun _ => True) v0_ r ∧ Below w.heap.size w w' := by
 have hu31 := Try.underlying31
 have HR0_2 := Aside0.mk hr0_2
 have HC0_2 := Aside0.mk hc0_2
 clear hr0_2 hc0_2
 have HB := Aside0.mk (Below.refl w.heap.size w)
 have H : (spec_boCells.l0 k ([] : List Int) 0 a0_0 a0_1 l0_2) = some r := h
 clear h
 have H' := Aside0.mk H
 clear H
 go_enter Try.func29, Try.ntmps29
 go_wp2_with (first | ((with_reducible refine gate_dst (N := 1) rfl ?_); refine box_event ?hg (N := 1) ?hd (cs := #[.int .i64 a0_0, .int .i64 a0_1, .slice A0_2 l0_2.length c0_2]) (t := 31) ?hr ?_; (case hd => rfl); (case hg => rfl); (case hr => first | (go_simp; done) | (go_simp; rfl)); intro gb123 hg w2 hbox hb; have n0_ := Aside0.mk (below_step zc2 hb); have n1_ := Aside0.mk (hbox); have n2_ := Aside0.mk ((zc35 : w.heap.size ≤ gb123)); have n3_ := Aside0.mk ((zc35 : w.heap.size ≤ gb123)); clear HB; have HB := n0_; have BK123 := n1_; have GW123 := n2_; have GE123 := n3_; clear n0_ n1_ n2_ n3_; clear hb hbox hg))
 go_loopg [3, 4] k (fun kq v3 v4 w' => ∃ (x3_1 : List Int) (x4_1 : Int), v4 = .int .i64 x4_1 ∧ Aside0 (spec_boCells.l0 kq x3_1 x4_1 a0_0 a0_1 l0_2 = some r) ∧ Aside0 (kq ≤ k) ∧ Aside0 (Kd.R (Kd.int .i64) 3 w' w.heap.size (fun _ => True) v3 x3_1) ∧ Aside0 (w'.heap[gb123]? = some (.cells #[.int .i64 a0_0, .int .i64 a0_1, (.slice A0_2 l0_2.length c0_2)] 31 (0, 0))) ∧ Aside0 (Below w.heap.size w w'))
 case atStart => exact ⟨(([] : List Int)), (0), zc20, H', ⟨Nat.le_refl _⟩, ⟨zc30⟩, ⟨zc22⟩, ⟨zc13⟩⟩
 case round =>
  clear H'
  try clear c2; try clear p2
  obtain ⟨x3_1, x4_1, rfl, HA, HK1, HO_3, BK123, HB⟩ := hrel
  cases gk with
  | zero => exact absurd HA.out (by simp [spec_boCells.l0])
  | succ k1 =>
   have H := HA.out
   clear HA
   simp only [spec_boCells.l0] at H
   by_cases c3 : x4_1 < (wrap64 (a0_0 * a0_1))
   rotate_left
   ·rw [if_neg c3] at H
    have c3b0 : decide (x4_1 < (wrap64 (a0_0 * a0_1))) = false := decide_eq_false c3
    clear c3
    obtain rfl := Option.some.inj H
    have hcz12_0 : wr.cell? ⟨gb123, 0, none⟩ = some (.int .i64 a0_0) := (blk_cell BK123.out 0).trans rfl
    have hcz12_1 : wr.cell? ⟨gb123, 1, none⟩ = some (.int .i64 a0_1) := (blk_cell BK123.out 1).trans rfl
    have hcz12_2 : wr.cell? ⟨gb123, 2, none⟩ = some (.slice A0_2 l0_2.length c0_2) := (blk_cell BK123.out 2).trans rfl
    have hfz12_0 := blk_frozen BK123.out 0
    have hfz12_1 := blk_frozen BK123.out 1
    have hfz12_2 := blk_frozen BK123.out 2
    go_wp2
    go_ret
    exact ⟨_, zc18, zc23, zc13⟩
   rw [if_pos c3] at H
   have c3b0 : decide (x4_1 < (wrap64 (a0_0 * a0_1))) = true := decide_eq_true c3
   clear c3
   replace H := Option.bind_eq_some_iff.mp H
   obtain ⟨t124, A40, H⟩ := H
   replace H : (if t124 = true then (if x3_1.length < 17592186044416 then (spec_boCells.l0 k1 (x3_1 ++ [x4_1]) (wrap64 (x4_1 + 1)) a0_0 a0_1 l0_2) else (none)) else (spec_boCells.l0 k1 x3_1 (wrap64 (x4_1 + 1)) a0_0 a0_1 l0_2)) = some r := H
   have A4 := Aside0.mk A40
   clear A40
   by_cases c5 : t124 = true
   rotate_left
   ·replace c5 := Bool.eq_false_iff.mpr c5
    subst c5
    have H1 : (spec_boCells.l0 k1 x3_1 (wrap64 (x4_1 + 1)) a0_0 a0_1 l0_2) = some r := by rw [if_neg (show ¬ (false = true) by decide)] at H; exact H
    clear H
    have H := H1
    clear H1
    have H' := Aside0.mk H
    clear H
    have hcz10_0 : wr.cell? ⟨gb123, 0, none⟩ = some (.int .i64 a0_0) := (blk_cell BK123.out 0).trans rfl
    have hcz10_1 : wr.cell? ⟨gb123, 1, none⟩ = some (.int .i64 a0_1) := (blk_cell BK123.out 1).trans rfl
    have hcz10_2 : wr.cell? ⟨gb123, 2, none⟩ = some (.slice A0_2 l0_2.length c0_2) := (blk_cell BK123.out 2).trans rfl
    have hfz10_0 := blk_frozen BK123.out 0
    have hfz10_1 := blk_frozen BK123.out 1
    have hfz10_2 := blk_frozen BK123.out 2
    go_wp2_with (first | ((with_reducible refine gate_callee (f := 53) rfl ?_); refine goesL_ (some 16) rfl rfl Try.func53 (by kernel_rfl) rfl #[.agg #[.int .i64 a0_0, .int .i64 a0_1, .slice A0_2 l0_2.length c0_2], .int .i64 x4_1] rfl zc12 ?_; (with_reducible refine (spec_boHas.calls k1 a0_0 a0_1 _ _ l0_2 x4_1 false _ ?side1 ?side2 A4.out).mono ?_); (case side1 => exact zc7); (case side2 => exact HC0_2.out); rintro e w11 ⟨rfl, hb⟩; refine ⟨_, rfl, ?_⟩; have n0_ := Aside0.mk (Kd.R_below zc23 hb); have n1_ := Aside0.mk (blk_below (g := gb123) (o := .cells #[.int .i64 a0_0, .int .i64 a0_1, .slice A0_2 l0_2.length c0_2] 31 (0, 0)) zc22 hb); have n2_ := Aside0.mk (below_step zc13 hb); clear HO_3; clear BK123; clear HB; have HO_3 := n0_; have BK123 := n1_; have HB := n2_; clear n0_ n1_ n2_; (try clear hb); (try clear hb2); (try clear hk); (try clear hi); (try clear hna_); (try clear hnb_)))
    go_roundg k1
    case measure => have := HK1.out; omega
    case rel => exact ⟨(x3_1), (wrap64 (x4_1 + 1)), zc20, H', ⟨by have := HK1.out; omega⟩, ⟨zc23⟩, ⟨zc22⟩, ⟨zc13⟩⟩
   subst c5
   have H1 : (if x3_1.length < 17592186044416 then (spec_boCells.l0 k1 (x3_1 ++ [x4_1]) (wrap64 (x4_1 + 1)) a0_0 a0_1 l0_2) else (none)) = some r := by rw [if_pos rfl] at H; exact H
   clear H
   have H := H1
   clear H1
   by_cases c6 : x3_1.length < 17592186044416
   rotate_left
   ·rw [if_neg c6] at H
    exact absurd H (by simp)
   rw [if_pos c6] at H
   have LMc6 := Aside0.mk c6
   clear c6
   obtain ⟨y125, hy125⟩ : ∃ y_ : List Int, y_ = (x3_1 ++ [x4_1]) := ⟨_, rfl⟩
   replace H : (spec_boCells.l0 k1 y125 (wrap64 (x4_1 + 1)) a0_0 a0_1 l0_2) = some r := by first | (rw [hy125]; with_reducible exact H) | (have H2_ := (Option.bind_some _ _).symm.trans H; rw [hy125]; with_reducible exact H2_) | (have H2_ := (Option.bind_some _ _).symm.trans H; with_reducible exact H2_) | with_reducible exact H | (rw [hy125]; exact H) | exact H
   have Ny125 := Aside0.mk hy125
   clear hy125
   have H' := Aside0.mk H
   clear H
   have hcz7_0 : wr.cell? ⟨gb123, 0, none⟩ = some (.int .i64 a0_0) := (blk_cell BK123.out 0).trans rfl
   have hcz7_1 : wr.cell? ⟨gb123, 1, none⟩ = some (.int .i64 a0_1) := (blk_cell BK123.out 1).trans rfl
   have hcz7_2 : wr.cell? ⟨gb123, 2, none⟩ = some (.slice A0_2 l0_2.length c0_2) := (blk_cell BK123.out 2).trans rfl
   have hfz7_0 := blk_frozen BK123.out 0
   have hfz7_1 := blk_frozen BK123.out 1
   have hfz7_2 := blk_frozen BK123.out 2
   go_wp2_with (first | ((with_reducible refine gate_callee (f := 53) rfl ?_); refine goesL_ (some 16) rfl rfl Try.func53 (by kernel_rfl) rfl #[.agg #[.int .i64 a0_0, .int .i64 a0_1, .slice A0_2 l0_2.length c0_2], .int .i64 x4_1] rfl zc12 ?_; (with_reducible refine (spec_boHas.calls k1 a0_0 a0_1 _ _ l0_2 x4_1 true _ ?side1 ?side2 A4.out).mono ?_); (case side1 => exact zc7); (case side2 => exact HC0_2.out); rintro e w8 ⟨rfl, hb⟩; refine ⟨_, rfl, ?_⟩; have n0_ := Aside0.mk (Kd.R_below zc23 hb); have n1_ := Aside0.mk (blk_below (g := gb123) (o := .cells #[.int .i64 a0_0, .int .i64 a0_1, .slice A0_2 l0_2.length c0_2] 31 (0, 0)) zc22 hb); have n2_ := Aside0.mk (below_step zc13 hb); clear HO_3; clear BK123; clear HB; have HO_3 := n0_; have BK123 := n1_; have HB := n2_; clear n0_ n1_ n2_; (try clear hb); (try clear hb2); (try clear hk); (try clear hi); (try clear hna_); (try clear hnb_)) | ((with_reducible refine gate_builtin (b := .append) (xs := #[.tmp 17, .tmp 19]) rfl ?_); at_builtin; refine Kd.R_append (Kd.int .i64) (w0 := w) w.heap.size rfl (.tmp 17) (.tmp 19) 22 3 (.int .i64 0) 8 rfl Try.underlying22 info3 rfl (by decide) (by omega) u3 x3_1 x4_1 [.int .i64 x4_1] (fun _ => True) (fun _ => False) rfl rfl ?aP (fun _ hk => hk.elim) ?aF ?aO ?aB ?aS ?aL ?_; (case aP => exact rfl); (case aB => exact zc13); (case aF => exact (fun _ _ => trivial)); (case aO => exact zc23); (case aS => exact (below_size zc13)); (case aL => have := LMc6.out; omega); intro v126 w9 ho hb hg hat; rw [← Ny125.out] at ho; have n0_ := Aside0.mk (blk_grown (g := gb123) (o := .cells #[.int .i64 a0_0, .int .i64 a0_1, .slice A0_2 l0_2.length c0_2] 31 (0, 0)) zc22 hg (Kd.R_ne HO_3.out BK123.out (by decide))); have n1_ := Aside0.mk (hb); have n2_ := Aside0.mk (ho); clear BK123; clear HB; clear HO_3; have BK123 := n0_; have HB := n1_; have HO127 := n2_; clear n0_ n1_ n2_; clear ho hb hg hat))
   go_roundg k1
   case measure => have := HK1.out; omega
   case rel => exact ⟨(y125), (wrap64 (x4_1 + 1)), zc20, H', ⟨by have := HK1.out; omega⟩, ⟨by first | exact HO127.out | ((with_reducible repeat (first | apply Kd.R_alloc | apply Kd.R_drewN | apply Kd.R_drew)); exact HO127.out)⟩, ⟨zc22⟩, ⟨zc13⟩⟩

/-! ### spec_l1Most: function 92 -/
def spec_l1Most.f (a0 : Int) (a1 : Int) : Option (Int) := if a0 > a1 then (some a0) else (some a1)
set_option maxHeartbeats 8000000 in
set_option maxRecDepth 100000 in
theorem spec_l1Most.calls (a0 : Int) (a1 : Int) (r : Int) (w : World) (h : spec_l1Most.f a0 a1 = some r) :
  Calls Try.prog 92 #[.int .i64 a0, .int .i64 a1] w fun e w' => e = .returned (.int .i64 r) ∧ Drawn0 w w' := by
 have H : (if a0 > a1 then (some a0) else (some a1)) = some r := h
 clear h
 by_cases c3 : a0 > a1
 ·rw [if_pos c3] at H
  have c3b0 : decide (a1 < a0) = true := decide_eq_true c3
  clear c3
  obtain rfl := Option.some.inj H
  go_enter Try.func92, Try.ntmps92
  go_wp2
  go_ret
  exact ⟨zc20, by repeat (first | exact Drawn0.refl _ | apply Drawn0.step)⟩
 rw [if_neg c3] at H
 have c3b0 : decide (a1 < a0) = false := decide_eq_false c3
 clear c3
 obtain rfl := Option.some.inj H
 go_enter Try.func92, Try.ntmps92
 go_wp2
 go_ret
 exact ⟨zc20, by repeat (first | exact Drawn0.refl _ | apply Drawn0.step)⟩

/-! ### spec_l1Abs: function 75 -/
def spec_l1Abs.f (a0 : Int) : Option (Int) := (spec_l1Most.f a0 (wrap64 (-a0))).bind fun t128 => (some t128)
set_option maxHeartbeats 8000000 in
set_option maxRecDepth 100000 in
theorem spec_l1Abs.calls (a0 : Int) (r : Int) (w : World) (h : spec_l1Abs.f a0 = some r) :
  Calls Try.prog 75 #[.int .i64 a0] w fun e w' => e = .returned (.int .i64 r) ∧ Drawn0 w w' := by
 have H : ((spec_l1Most.f a0 (wrap64 (-a0))).bind fun t128 => (some t128)) = some r := h
 clear h
 replace H := Option.bind_eq_some_iff.mp H
 obtain ⟨t128, A20, H⟩ := H
 replace H : (some t128) = some r := H
 have A2 := Aside0.mk A20
 clear A20
 obtain rfl := Option.some.inj H
 go_enter Try.func75, Try.ntmps75
 go_wp2_with (first | ((with_reducible refine gate_callee (f := 92) rfl ?_); refine goesL_ (some 6) rfl rfl Try.func92 (by kernel_rfl) rfl #[.int .i64 a0, .int .i64 (wrap64 (-a0))] rfl zc12 ?_; (with_reducible refine (spec_l1Most.calls a0 (wrap64 (-a0)) t128 _ A2.out).mono ?_); rintro e w' ⟨rfl, ⟨nd, rfl⟩⟩; refine ⟨_, rfl, ?_⟩))
 go_ret
 exact ⟨zc20, by repeat (first | exact Drawn0.refl _ | apply Drawn0.step)⟩

/-! ### spec_boIs: function 54 -/
def spec_boIs.f (a0_0 : Int) (a0_1 : Int) (l0_2 : List Int) (a1_0 : Int) (a1_1 : Int) (a2 : Int) (a3 : Int) : Option (Bool) := if a0_0 = 0 then (none) else ((spec_l1Abs.f (wrap64 ((Int.tmod a2 a0_0) - (Int.tmod a3 a0_0)))).bind fun t131 => ((spec_l1Abs.f (wrap64 ((wrap64 (Int.tdiv a2 a0_0)) - (wrap64 (Int.tdiv a3 a0_0))))).bind fun t132 => (if t131 = a1_0 then (if t132 = a1_1 then (some true) else (if t131 = a1_1 then (some (t132 == a1_0)) else (some false))) else (if t131 = a1_1 then (some (t132 == a1_0)) else (some false)))))
set_option maxHeartbeats 8000000 in
set_option maxRecDepth 100000 in
theorem spec_boIs.calls (a0_0 : Int) (a0_1 : Int) (A0_2 : Option Addr) (c0_2 : Nat) (l0_2 : List Int) (a1_0 : Int) (a1_1 : Int) (a2 : Int) (a3 : Int) (r : Bool) (w : World) (hr0_2 : Kd.C (Kd.int .i64) w A0_2 l0_2.length l0_2) (hc0_2 : l0_2.length ≤ c0_2) (h : spec_boIs.f a0_0 a0_1 l0_2 a1_0 a1_1 a2 a3 = some r) :
  Calls Try.prog 54 #[.agg #[.int .i64 a0_0, .int .i64 a0_1, .slice A0_2 l0_2.length c0_2], .agg #[.int .i64 a1_0, .int .i64 a1_1], .int .i64 a2, .int .i64 a3] w fun e w' => e = .returned (.bool r) ∧ Below w.heap.size w w' := by
 have hu31 := Try.underlying31
 have hu33 := Try.underlying33
 have HR0_2 := Aside0.mk hr0_2
 have HC0_2 := Aside0.mk hc0_2
 clear hr0_2 hc0_2
 have HB := Aside0.mk (Below.refl w.heap.size w)
 have H : (if a0_0 = 0 then (none) else ((spec_l1Abs.f (wrap64 ((Int.tmod a2 a0_0) - (Int.tmod a3 a0_0)))).bind fun t131 => ((spec_l1Abs.f (wrap64 ((wrap64 (Int.tdiv a2 a0_0)) - (wrap64 (Int.tdiv a3 a0_0))))).bind fun t132 => (if t131 = a1_0 then (if t132 = a1_1 then (some true) else (if t131 = a1_1 then (some (t132 == a1_0)) else (some false))) else (if t131 = a1_1 then (some (t132 == a1_0)) else (some false)))))) = some r := h
 clear h
 by_cases c5 : a0_0 = 0
 ·rw [if_pos c5] at H
  exact absurd H (by simp)
 rw [if_neg c5] at H
 have c5b0 : (a0_0 == 0) = false := beq_eq_false_iff_ne.mpr c5
 have c5b1 : (a0_0 != 0) = true := bne_iff_ne.mpr c5
 replace H := Option.bind_eq_some_iff.mp H
 obtain ⟨t131, A60, H⟩ := H
 replace H : ((spec_l1Abs.f (wrap64 ((wrap64 (Int.tdiv a2 a0_0)) - (wrap64 (Int.tdiv a3 a0_0))))).bind fun t132 => (if t131 = a1_0 then (if t132 = a1_1 then (some true) else (if t131 = a1_1 then (some (t132 == a1_0)) else (some false))) else (if t131 = a1_1 then (some (t132 == a1_0)) else (some false)))) = some r := H
 have A6 := Aside0.mk A60
 clear A60
 replace H := Option.bind_eq_some_iff.mp H
 obtain ⟨t132, A70, H⟩ := H
 replace H : (if t131 = a1_0 then (if t132 = a1_1 then (some true) else (if t131 = a1_1 then (some (t132 == a1_0)) else (some false))) else (if t131 = a1_1 then (some (t132 == a1_0)) else (some false))) = some r := H
 have A7 := Aside0.mk A70
 clear A70
 by_cases c8 : t131 = a1_0
 rotate_left
 ·rw [if_neg c8] at H
  have c8b0 : (t131 == a1_0) = false := beq_eq_false_iff_ne.mpr c8
  have c8b1 : (t131 != a1_0) = true := bne_iff_ne.mpr c8
  by_cases c26 : t131 = a1_1
  rotate_left
  ·rw [if_neg c26] at H
   have c26b0 : (t131 == a1_1) = false := beq_eq_false_iff_ne.mpr c26
   have c26b1 : (t131 != a1_1) = true := bne_iff_ne.mpr c26
   obtain rfl := Option.some.inj H
   go_enter Try.func54, Try.ntmps54
   go_wp2_with (first | ((with_reducible refine gate_dst (N := 4) rfl ?_); refine box_event ?hg (N := 4) ?hd (cs := #[.int .i64 a0_0, .int .i64 a0_1, .slice A0_2 l0_2.length c0_2]) (t := 31) ?hr ?_; (case hd => rfl); (case hg => rfl); (case hr => first | (go_simp; done) | (go_simp; rfl)); intro gb129 hg w32 hbox hb; have n0_ := Aside0.mk (below_step zc2 hb); have n1_ := Aside0.mk (hbox); have n2_ := Aside0.mk ((zc35 : w.heap.size ≤ gb129)); have n3_ := Aside0.mk ((zc35 : w.heap.size ≤ gb129)); clear HB; have HB := n0_; have BK129 := n1_; have GW129 := n2_; have GE129 := n3_; clear n0_ n1_ n2_ n3_; clear hb hbox hg) | ((with_reducible refine gate_dst (N := 5) rfl ?_); refine box_event ?hg (N := 5) ?hd (cs := #[.int .i64 a1_0, .int .i64 a1_1]) (t := 33) ?hr ?_; (case hd => rfl); (case hg => rfl); (case hr => first | (go_simp; done) | (go_simp; rfl)); intro gb130 hg w33 hbox hb; have n0_ := Aside0.mk (blk_below (g := gb129) (o := .cells #[.int .i64 a0_0, .int .i64 a0_1, .slice A0_2 l0_2.length c0_2] 31 (0, 0)) zc4 hb); have n1_ := Aside0.mk (below_step zc3 hb); have n2_ := Aside0.mk (hbox); have n3_ := Aside0.mk ((zc36 : w.heap.size ≤ gb130)); have n4_ := Aside0.mk ((zc36 : w.heap.size ≤ gb130)); have n5_ := Aside0.mk ((zc33 : gb129 ≠ gb130)); have n6_ := Aside0.mk ((zc34 : gb130 ≠ gb129)); clear BK129; clear HB; have BK129 := n0_; have HB := n1_; have BK130 := n2_; have GW130 := n3_; have GE130 := n4_; have NB129_130 := n5_; have NB130_129 := n6_; clear n0_ n1_ n2_ n3_ n4_ n5_ n6_; clear hb hbox hg; have hnb34 := NB129_130.out; have hnc34 := NB130_129.out; have hcz35_0 : w33.cell? ⟨gb129, 0, none⟩ = some (.int .i64 a0_0) := (blk_cell BK129.out 0).trans rfl; have hcz35_1 : w33.cell? ⟨gb129, 1, none⟩ = some (.int .i64 a0_1) := (blk_cell BK129.out 1).trans rfl; have hcz35_2 : w33.cell? ⟨gb129, 2, none⟩ = some (.slice A0_2 l0_2.length c0_2) := (blk_cell BK129.out 2).trans rfl; have hfz35_0 := blk_frozen BK129.out 0; have hfz35_1 := blk_frozen BK129.out 1; have hfz35_2 := blk_frozen BK129.out 2) | (go_at_call 75; (with_reducible refine (spec_l1Abs.calls (wrap64 ((Int.tmod a2 a0_0) - (Int.tmod a3 a0_0))) t131 _ A6.out).mono ?_); rintro e w' ⟨rfl, ⟨nd, rfl⟩⟩; (try first | exact ⟨rfl, _, World.drewN_drewN _ _ _⟩ | exact ⟨rfl, _, Eq.trans (World.drewN_drewN _ _ _) (congrArg (World.drewN _) (Nat.add_assoc _ _ _))⟩)) | (go_at_call 75; (with_reducible refine (spec_l1Abs.calls (wrap64 ((wrap64 (Int.tdiv a2 a0_0)) - (wrap64 (Int.tdiv a3 a0_0)))) t132 _ A7.out).mono ?_); rintro e w' ⟨rfl, ⟨nd, rfl⟩⟩; (try first | exact ⟨rfl, _, World.drewN_drewN _ _ _⟩ | exact ⟨rfl, _, Eq.trans (World.drewN_drewN _ _ _) (congrArg (World.drewN _) (Nat.add_assoc _ _ _))⟩); have hcz36_0 : w33.cell? ⟨gb130, 0, none⟩ = some (.int .i64 a1_0) := (blk_cell BK130.out 0).trans rfl; have hcz36_1 : w33.cell? ⟨gb130, 1, none⟩ = some (.int .i64 a1_1) := (blk_cell BK130.out 1).trans rfl; have hfz36_0 := blk_frozen BK130.out 0; have hfz36_1 := blk_frozen BK130.out 1))
   repeat ((first | go_quiet (first | (go_at_call 75; (with_reducible refine (spec_l1Abs.calls (wrap64 ((Int.tmod a2 a0_0) - (Int.tmod a3 a0_0))) t131 _ A6.out).mono ?_); rintro e w' ⟨rfl, ⟨nd, rfl⟩⟩; (try first | exact ⟨rfl, _, World.drewN_drewN _ _ _⟩ | exact ⟨rfl, _, Eq.trans (World.drewN_drewN _ _ _) (congrArg (World.drewN _) (Nat.add_assoc _ _ _))⟩)) | (go_at_call 75; (with_reducible refine (spec_l1Abs.calls (wrap64 ((wrap64 (Int.tdiv a2 a0_0)) - (wrap64 (Int.tdiv a3 a0_0)))) t132 _ A7.out).mono ?_); rintro e w' ⟨rfl, ⟨nd, rfl⟩⟩; (try first | exact ⟨rfl, _, World.drewN_drewN _ _ _⟩ | exact ⟨rfl, _, Eq.trans (World.drewN_drewN _ _ _) (congrArg (World.drewN _) (Nat.add_assoc _ _ _))⟩); have hcz36_0 : w33.cell? ⟨gb130, 0, none⟩ = some (.int .i64 a1_0) := (blk_cell BK130.out 0).trans rfl; have hcz36_1 : w33.cell? ⟨gb130, 1, none⟩ = some (.int .i64 a1_1) := (blk_cell BK130.out 1).trans rfl; have hfz36_0 := blk_frozen BK130.out 0; have hfz36_1 := blk_frozen BK130.out 1)) | (refine wp_region_quiet_lit (by kernel_rfl) (by kernel_rfl) ?_; (repeat (any_goals (first | go_big_quiet_step (first | (go_at_call 75; (with_reducible refine (spec_l1Abs.calls (wrap64 ((Int.tmod a2 a0_0) - (Int.tmod a3 a0_0))) t131 _ A6.out).mono ?_); rintro e w' ⟨rfl, ⟨nd, rfl⟩⟩; (try first | exact ⟨rfl, _, World.drewN_drewN _ _ _⟩ | exact ⟨rfl, _, Eq.trans (World.drewN_drewN _ _ _) (congrArg (World.drewN _) (Nat.add_assoc _ _ _))⟩)) | (go_at_call 75; (with_reducible refine (spec_l1Abs.calls (wrap64 ((wrap64 (Int.tdiv a2 a0_0)) - (wrap64 (Int.tdiv a3 a0_0)))) t132 _ A7.out).mono ?_); rintro e w' ⟨rfl, ⟨nd, rfl⟩⟩; (try first | exact ⟨rfl, _, World.drewN_drewN _ _ _⟩ | exact ⟨rfl, _, Eq.trans (World.drewN_drewN _ _ _) (congrArg (World.drewN _) (Nat.add_assoc _ _ _))⟩); have hcz36_0 : w33.cell? ⟨gb130, 0, none⟩ = some (.int .i64 a1_0) := (blk_cell BK130.out 0).trans rfl; have hcz36_1 : w33.cell? ⟨gb130, 1, none⟩ = some (.int .i64 a1_1) := (blk_cell BK130.out 1).trans rfl; have hfz36_0 := blk_frozen BK130.out 0; have hfz36_1 := blk_frozen BK130.out 1)) | quiet_step (first | (go_at_call 75; (with_reducible refine (spec_l1Abs.calls (wrap64 ((Int.tmod a2 a0_0) - (Int.tmod a3 a0_0))) t131 _ A6.out).mono ?_); rintro e w' ⟨rfl, ⟨nd, rfl⟩⟩; (try first | exact ⟨rfl, _, World.drewN_drewN _ _ _⟩ | exact ⟨rfl, _, Eq.trans (World.drewN_drewN _ _ _) (congrArg (World.drewN _) (Nat.add_assoc _ _ _))⟩)) | (go_at_call 75; (with_reducible refine (spec_l1Abs.calls (wrap64 ((wrap64 (Int.tdiv a2 a0_0)) - (wrap64 (Int.tdiv a3 a0_0)))) t132 _ A7.out).mono ?_); rintro e w' ⟨rfl, ⟨nd, rfl⟩⟩; (try first | exact ⟨rfl, _, World.drewN_drewN _ _ _⟩ | exact ⟨rfl, _, Eq.trans (World.drewN_drewN _ _ _) (congrArg (World.drewN _) (Nat.add_assoc _ _ _))⟩); have hcz36_0 : w33.cell? ⟨gb130, 0, none⟩ = some (.int .i64 a1_0) := (blk_cell BK130.out 0).trans rfl; have hcz36_1 : w33.cell? ⟨gb130, 1, none⟩ = some (.int .i64 a1_1) := (blk_cell BK130.out 1).trans rfl; have hfz36_0 := blk_frozen BK130.out 0; have hfz36_1 := blk_frozen BK130.out 1))))); all_goals (refine wpQuiet_nil ?_; intro _ hw2_; obtain ⟨nq, hw3_⟩ := hw2_; subst hw3_))); try go_wp2_with (first | ((with_reducible refine gate_dst (N := 4) rfl ?_); refine box_event ?hg (N := 4) ?hd (cs := #[.int .i64 a0_0, .int .i64 a0_1, .slice A0_2 l0_2.length c0_2]) (t := 31) ?hr ?_; (case hd => rfl); (case hg => rfl); (case hr => first | (go_simp; done) | (go_simp; rfl)); intro gb129 hg w32 hbox hb; have n0_ := Aside0.mk (below_step zc2 hb); have n1_ := Aside0.mk (hbox); have n2_ := Aside0.mk ((zc35 : w.heap.size ≤ gb129)); have n3_ := Aside0.mk ((zc35 : w.heap.size ≤ gb129)); clear HB; have HB := n0_; have BK129 := n1_; have GW129 := n2_; have GE129 := n3_; clear n0_ n1_ n2_ n3_; clear hb hbox hg) | ((with_reducible refine gate_dst (N := 5) rfl ?_); refine box_event ?hg (N := 5) ?hd (cs := #[.int .i64 a1_0, .int .i64 a1_1]) (t := 33) ?hr ?_; (case hd => rfl); (case hg => rfl); (case hr => first | (go_simp; done) | (go_simp; rfl)); intro gb130 hg w33 hbox hb; have n0_ := Aside0.mk (blk_below (g := gb129) (o := .cells #[.int .i64 a0_0, .int .i64 a0_1, .slice A0_2 l0_2.length c0_2] 31 (0, 0)) zc4 hb); have n1_ := Aside0.mk (below_step zc3 hb); have n2_ := Aside0.mk (hbox); have n3_ := Aside0.mk ((zc36 : w.heap.size ≤ gb130)); have n4_ := Aside0.mk ((zc36 : w.heap.size ≤ gb130)); have n5_ := Aside0.mk ((zc33 : gb129 ≠ gb130)); have n6_ := Aside0.mk ((zc34 : gb130 ≠ gb129)); clear BK129; clear HB; have BK129 := n0_; have HB := n1_; have BK130 := n2_; have GW130 := n3_; have GE130 := n4_; have NB129_130 := n5_; have NB130_129 := n6_; clear n0_ n1_ n2_ n3_ n4_ n5_ n6_; clear hb hbox hg; have hnb34 := NB129_130.out; have hnc34 := NB130_129.out; have hcz35_0 : w33.cell? ⟨gb129, 0, none⟩ = some (.int .i64 a0_0) := (blk_cell BK129.out 0).trans rfl; have hcz35_1 : w33.cell? ⟨gb129, 1, none⟩ = some (.int .i64 a0_1) := (blk_cell BK129.out 1).trans rfl; have hcz35_2 : w33.cell? ⟨gb129, 2, none⟩ = some (.slice A0_2 l0_2.length c0_2) := (blk_cell BK129.out 2).trans rfl; have hfz35_0 := blk_frozen BK129.out 0; have hfz35_1 := blk_frozen BK129.out 1; have hfz35_2 := blk_frozen BK129.out 2) | (go_at_call 75; (with_reducible refine (spec_l1Abs.calls (wrap64 ((Int.tmod a2 a0_0) - (Int.tmod a3 a0_0))) t131 _ A6.out).mono ?_); rintro e w' ⟨rfl, ⟨nd, rfl⟩⟩; (try first | exact ⟨rfl, _, World.drewN_drewN _ _ _⟩ | exact ⟨rfl, _, Eq.trans (World.drewN_drewN _ _ _) (congrArg (World.drewN _) (Nat.add_assoc _ _ _))⟩)) | (go_at_call 75; (with_reducible refine (spec_l1Abs.calls (wrap64 ((wrap64 (Int.tdiv a2 a0_0)) - (wrap64 (Int.tdiv a3 a0_0)))) t132 _ A7.out).mono ?_); rintro e w' ⟨rfl, ⟨nd, rfl⟩⟩; (try first | exact ⟨rfl, _, World.drewN_drewN _ _ _⟩ | exact ⟨rfl, _, Eq.trans (World.drewN_drewN _ _ _) (congrArg (World.drewN _) (Nat.add_assoc _ _ _))⟩); have hcz36_0 : w33.cell? ⟨gb130, 0, none⟩ = some (.int .i64 a1_0) := (blk_cell BK130.out 0).trans rfl; have hcz36_1 : w33.cell? ⟨gb130, 1, none⟩ = some (.int .i64 a1_1) := (blk_cell BK130.out 1).trans rfl; have hfz36_0 := blk_frozen BK130.out 0; have hfz36_1 := blk_frozen BK130.out 1)))
   go_ret
   exact ⟨zc18, zc17⟩
  rw [if_pos c26] at H
  have c26b0 : (t131 == a1_1) = true := beq_iff_eq.mpr c26
  have c26b1 : (t131 != a1_1) = false := bne_eq_false_iff_eq.mpr c26
  clear c26
  obtain rfl := Option.some.inj H
  go_enter Try.func54, Try.ntmps54
  go_wp2_with (first | ((with_reducible refine gate_dst (N := 4) rfl ?_); refine box_event ?hg (N := 4) ?hd (cs := #[.int .i64 a0_0, .int .i64 a0_1, .slice A0_2 l0_2.length c0_2]) (t := 31) ?hr ?_; (case hd => rfl); (case hg => rfl); (case hr => first | (go_simp; done) | (go_simp; rfl)); intro gb129 hg w27 hbox hb; have n0_ := Aside0.mk (below_step zc2 hb); have n1_ := Aside0.mk (hbox); have n2_ := Aside0.mk ((zc35 : w.heap.size ≤ gb129)); have n3_ := Aside0.mk ((zc35 : w.heap.size ≤ gb129)); clear HB; have HB := n0_; have BK129 := n1_; have GW129 := n2_; have GE129 := n3_; clear n0_ n1_ n2_ n3_; clear hb hbox hg) | ((with_reducible refine gate_dst (N := 5) rfl ?_); refine box_event ?hg (N := 5) ?hd (cs := #[.int .i64 a1_0, .int .i64 a1_1]) (t := 33) ?hr ?_; (case hd => rfl); (case hg => rfl); (case hr => first | (go_simp; done) | (go_simp; rfl)); intro gb130 hg w28 hbox hb; have n0_ := Aside0.mk (blk_below (g := gb129) (o := .cells #[.int .i64 a0_0, .int .i64 a0_1, .slice A0_2 l0_2.length c0_2] 31 (0, 0)) zc4 hb); have n1_ := Aside0.mk (below_step zc3 hb); have n2_ := Aside0.mk (hbox); have n3_ := Aside0.mk ((zc36 : w.heap.size ≤ gb130)); have n4_ := Aside0.mk ((zc36 : w.heap.size ≤ gb130)); have n5_ := Aside0.mk ((zc33 : gb129 ≠ gb130)); have n6_ := Aside0.mk ((zc34 : gb130 ≠ gb129)); clear BK129; clear HB; have BK129 := n0_; have HB := n1_; have BK130 := n2_; have GW130 := n3_; have GE130 := n4_; have NB129_130 := n5_; have NB130_129 := n6_; clear n0_ n1_ n2_ n3_ n4_ n5_ n6_; clear hb hbox hg; have hnb29 := NB129_130.out; have hnc29 := NB130_129.out; have hcz30_0 : w28.cell? ⟨gb129, 0, none⟩ = some (.int .i64 a0_0) := (blk_cell BK129.out 0).trans rfl; have hcz30_1 : w28.cell? ⟨gb129, 1, none⟩ = some (.int .i64 a0_1) := (blk_cell BK129.out 1).trans rfl; have hcz30_2 : w28.cell? ⟨gb129, 2, none⟩ = some (.slice A0_2 l0_2.length c0_2) := (blk_cell BK129.out 2).trans rfl; have hfz30_0 := blk_frozen BK129.out 0; have hfz30_1 := blk_frozen BK129.out 1; have hfz30_2 := blk_frozen BK129.out 2) | (go_at_call 75; (with_reducible refine (spec_l1Abs.calls (wrap64 ((Int.tmod a2 a0_0) - (Int.tmod a3 a0_0))) t131 _ A6.out).mono ?_); rintro e w' ⟨rfl, ⟨nd, rfl⟩⟩; (try first | exact ⟨rfl, _, World.drewN_drewN _ _ _⟩ | exact ⟨rfl, _, Eq.trans (World.drewN_drewN _ _ _) (congrArg (World.drewN _) (Nat.add_assoc _ _ _))⟩)) | (go_at_call 75; (with_reducible refine (spec_l1Abs.calls (wrap64 ((wrap64 (Int.tdiv a2 a0_0)) - (wrap64 (Int.tdiv a3 a0_0)))) t132 _ A7.out).mono ?_); rintro e w' ⟨rfl, ⟨nd, rfl⟩⟩; (try first | exact ⟨rfl, _, World.drewN_drewN _ _ _⟩ | exact ⟨rfl, _, Eq.trans (World.drewN_drewN _ _ _) (congrArg (World.drewN _) (Nat.add_assoc _ _ _))⟩); have hcz31_0 : w28.cell? ⟨gb130, 0, none⟩ = some (.int .i64 a1_0) := (blk_cell BK130.out 0).trans rfl; have hcz31_1 : w28.cell? ⟨gb130, 1, none⟩ = some (.int .i64 a1_1) := (blk_cell BK130.out 1).trans rfl; have hfz31_0 := blk_frozen BK130.out 0; have hfz31_1 := blk_frozen BK130.out 1))
  repeat ((first | go_quiet (first | (go_at_call 75; (with_reducible refine (spec_l1Abs.calls (wrap64 ((Int.tmod a2 a0_0) - (Int.tmod a3 a0_0))) t131 _ A6.out).mono ?_); rintro e w' ⟨rfl, ⟨nd, rfl⟩⟩; (try first | exact ⟨rfl, _, World.drewN_drewN _ _ _⟩ | exact ⟨rfl, _, Eq.trans (World.drewN_drewN _ _ _) (congrArg (World.drewN _) (Nat.add_assoc _ _ _))⟩)) | (go_at_call 75; (with_reducible refine (spec_l1Abs.calls (wrap64 ((wrap64 (Int.tdiv a2 a0_0)) - (wrap64 (Int.tdiv a3 a0_0)))) t132 _ A7.out).mono ?_); rintro e w' ⟨rfl, ⟨nd, rfl⟩⟩; (try first | exact ⟨rfl, _, World.drewN_drewN _ _ _⟩ | exact ⟨rfl, _, Eq.trans (World.drewN_drewN _ _ _) (congrArg (World.drewN _) (Nat.add_assoc _ _ _))⟩); have hcz31_0 : w28.cell? ⟨gb130, 0, none⟩ = some (.int .i64 a1_0) := (blk_cell BK130.out 0).trans rfl; have hcz31_1 : w28.cell? ⟨gb130, 1, none⟩ = some (.int .i64 a1_1) := (blk_cell BK130.out 1).trans rfl; have hfz31_0 := blk_frozen BK130.out 0; have hfz31_1 := blk_frozen BK130.out 1)) | (refine wp_region_quiet_lit (by kernel_rfl) (by kernel_rfl) ?_; (repeat (any_goals (first | go_big_quiet_step (first | (go_at_call 75; (with_reducible refine (spec_l1Abs.calls (wrap64 ((Int.tmod a2 a0_0) - (Int.tmod a3 a0_0))) t131 _ A6.out).mono ?_); rintro e w' ⟨rfl, ⟨nd, rfl⟩⟩; (try first | exact ⟨rfl, _, World.drewN_drewN _ _ _⟩ | exact ⟨rfl, _, Eq.trans (World.drewN_drewN _ _ _) (congrArg (World.drewN _) (Nat.add_assoc _ _ _))⟩)) | (go_at_call 75; (with_reducible refine (spec_l1Abs.calls (wrap64 ((wrap64 (Int.tdiv a2 a0_0)) - (wrap64 (Int.tdiv a3 a0_0)))) t132 _ A7.out).mono ?_); rintro e w' ⟨rfl, ⟨nd, rfl⟩⟩; (try first | exact ⟨rfl, _, World.drewN_drewN _ _ _⟩ | exact ⟨rfl, _, Eq.trans (World.drewN_drewN _ _ _) (congrArg (World.drewN _) (Nat.add_assoc _ _ _))⟩); have hcz31_0 : w28.cell? ⟨gb130, 0, none⟩ = some (.int .i64 a1_0) := (blk_cell BK130.out 0).trans rfl; have hcz31_1 : w28.cell? ⟨gb130, 1, none⟩ = some (.int .i64 a1_1) := (blk_cell BK130.out 1).trans rfl; have hfz31_0 := blk_frozen BK130.out 0; have hfz31_1 := blk_frozen BK130.out 1)) | quiet_step (first | (go_at_call 75; (with_reducible refine (spec_l1Abs.calls (wrap64 ((Int.tmod a2 a0_0) - (Int.tmod a3 a0_0))) t131 _ A6.out).mono ?_); rintro e w' ⟨rfl, ⟨nd, rfl⟩⟩; (try first | exact ⟨rfl, _, World.drewN_drewN _ _ _⟩ | exact ⟨rfl, _, Eq.trans (World.drewN_drewN _ _ _) (congrArg (World.drewN _) (Nat.add_assoc _ _ _))⟩)) | (go_at_call 75; (with_reducible refine (spec_l1Abs.calls (wrap64 ((wrap64 (Int.tdiv a2 a0_0)) - (wrap64 (Int.tdiv a3 a0_0)))) t132 _ A7.out).mono ?_); rintro e w' ⟨rfl, ⟨nd, rfl⟩⟩; (try first | exact ⟨rfl, _, World.drewN_drewN _ _ _⟩ | exact ⟨rfl, _, Eq.trans (World.drewN_drewN _ _ _) (congrArg (World.drewN _) (Nat.add_assoc _ _ _))⟩); have hcz31_0 : w28.cell? ⟨gb130, 0, none⟩ = some (.int .i64 a1_0) := (blk_cell BK130.out 0).trans rfl; have hcz31_1 : w28.cell? ⟨gb130, 1, none⟩ = some (.int .i64 a1_1) := (blk_cell BK130.out 1).trans rfl; have hfz31_0 := blk_frozen BK130.out 0; have hfz31_1 := blk_frozen BK130.out 1))))); all_goals (refine wpQuiet_nil ?_; intro _ hw2_; obtain ⟨nq, hw3_⟩ := hw2_; subst hw3_))); try go_wp2_with (first | ((with_reducible refine gate_dst (N := 4) rfl ?_); refine box_event ?hg (N := 4) ?hd (cs := #[.int .i64 a0_0, .int .i64 a0_1, .slice A0_2 l0_2.length c0_2]) (t := 31) ?hr ?_; (case hd => rfl); (case hg => rfl); (case hr => first | (go_simp; done) | (go_simp; rfl)); intro gb129 hg w27 hbox hb; have n0_ := Aside0.mk (below_step zc2 hb); have n1_ := Aside0.mk (hbox); have n2_ := Aside0.mk ((zc35 : w.heap.size ≤ gb129)); have n3_ := Aside0.mk ((zc35 : w.heap.size ≤ gb129)); clear HB; have HB := n0_; have BK129 := n1_; have GW129 := n2_; have GE129 := n3_; clear n0_ n1_ n2_ n3_; clear hb hbox hg) | ((with_reducible refine gate_dst (N := 5) rfl ?_); refine box_event ?hg (N := 5) ?hd (cs := #[.int .i64 a1_0, .int .i64 a1_1]) (t := 33) ?hr ?_; (case hd => rfl); (case hg => rfl); (case hr => first | (go_simp; done) | (go_simp; rfl)); intro gb130 hg w28 hbox hb; have n0_ := Aside0.mk (blk_below (g := gb129) (o := .cells #[.int .i64 a0_0, .int .i64 a0_1, .slice A0_2 l0_2.length c0_2] 31 (0, 0)) zc4 hb); have n1_ := Aside0.mk (below_step zc3 hb); have n2_ := Aside0.mk (hbox); have n3_ := Aside0.mk ((zc36 : w.heap.size ≤ gb130)); have n4_ := Aside0.mk ((zc36 : w.heap.size ≤ gb130)); have n5_ := Aside0.mk ((zc33 : gb129 ≠ gb130)); have n6_ := Aside0.mk ((zc34 : gb130 ≠ gb129)); clear BK129; clear HB; have BK129 := n0_; have HB := n1_; have BK130 := n2_; have GW130 := n3_; have GE130 := n4_; have NB129_130 := n5_; have NB130_129 := n6_; clear n0_ n1_ n2_ n3_ n4_ n5_ n6_; clear hb hbox hg; have hnb29 := NB129_130.out; have hnc29 := NB130_129.out; have hcz30_0 : w28.cell? ⟨gb129, 0, none⟩ = some (.int .i64 a0_0) := (blk_cell BK129.out 0).trans rfl; have hcz30_1 : w28.cell? ⟨gb129, 1, none⟩ = some (.int .i64 a0_1) := (blk_cell BK129.out 1).trans rfl; have hcz30_2 : w28.cell? ⟨gb129, 2, none⟩ = some (.slice A0_2 l0_2.length c0_2) := (blk_cell BK129.out 2).trans rfl; have hfz30_0 := blk_frozen BK129.out 0; have hfz30_1 := blk_frozen BK129.out 1; have hfz30_2 := blk_frozen BK129.out 2) | (go_at_call 75; (with_reducible refine (spec_l1Abs.calls (wrap64 ((Int.tmod a2 a0_0) - (Int.tmod a3 a0_0))) t131 _ A6.out).mono ?_); rintro e w' ⟨rfl, ⟨nd, rfl⟩⟩; (try first | exact ⟨rfl, _, World.drewN_drewN _ _ _⟩ | exact ⟨rfl, _, Eq.trans (World.drewN_drewN _ _ _) (congrArg (World.drewN _) (Nat.add_assoc _ _ _))⟩)) | (go_at_call 75; (with_reducible refine (spec_l1Abs.calls (wrap64 ((wrap64 (Int.tdiv a2 a0_0)) - (wrap64 (Int.tdiv a3 a0_0)))) t132 _ A7.out).mono ?_); rintro e w' ⟨rfl, ⟨nd, rfl⟩⟩; (try first | exact ⟨rfl, _, World.drewN_drewN _ _ _⟩ | exact ⟨rfl, _, Eq.trans (World.drewN_drewN _ _ _) (congrArg (World.drewN _) (Nat.add_assoc _ _ _))⟩); have hcz31_0 : w28.cell? ⟨gb130, 0, none⟩ = some (.int .i64 a1_0) := (blk_cell BK130.out 0).trans rfl; have hcz31_1 : w28.cell? ⟨gb130, 1, none⟩ = some (.int .i64 a1_1) := (blk_cell BK130.out 1).trans rfl; have hfz31_0 := blk_frozen BK130.out 0; have hfz31_1 := blk_frozen BK130.out 1)))
  go_ret
  exact ⟨zc18, zc17⟩
 rw [if_pos c8] at H
 have c8b0 : (t131 == a1_0) = true := beq_iff_eq.mpr c8
 have c8b1 : (t131 != a1_0) = false := bne_eq_false_iff_eq.mpr c8
 clear c8
 by_cases c9 : t132 = a1_1
 ·rw [if_pos c9] at H
  have c9b0 : (t132 == a1_1) = true := beq_iff_eq.mpr c9
  have c9b1 : (t132 != a1_1) = false := bne_eq_false_iff_eq.mpr c9
  clear c9
  obtain rfl := Option.some.inj H
  go_enter Try.func54, Try.ntmps54
  go_wp2_with (first | ((with_reducible refine gate_dst (N := 4) rfl ?_); refine box_event ?hg (N := 4) ?hd (cs := #[.int .i64 a0_0, .int .i64 a0_1, .slice A0_2 l0_2.length c0_2]) (t := 31) ?hr ?_; (case hd => rfl); (case hg => rfl); (case hr => first | (go_simp; done) | (go_simp; rfl)); intro gb129 hg w10 hbox hb; have n0_ := Aside0.mk (below_step zc2 hb); have n1_ := Aside0.mk (hbox); have n2_ := Aside0.mk ((zc35 : w.heap.size ≤ gb129)); have n3_ := Aside0.mk ((zc35 : w.heap.size ≤ gb129)); clear HB; have HB := n0_; have BK129 := n1_; have GW129 := n2_; have GE129 := n3_; clear n0_ n1_ n2_ n3_; clear hb hbox hg) | ((with_reducible refine gate_dst (N := 5) rfl ?_); refine box_event ?hg (N := 5) ?hd (cs := #[.int .i64 a1_0, .int .i64 a1_1]) (t := 33) ?hr ?_; (case hd => rfl); (case hg => rfl); (case hr => first | (go_simp; done) | (go_simp; rfl)); intro gb130 hg w11 hbox hb; have n0_ := Aside0.mk (blk_below (g := gb129) (o := .cells #[.int .i64 a0_0, .int .i64 a0_1, .slice A0_2 l0_2.length c0_2] 31 (0, 0)) zc4 hb); have n1_ := Aside0.mk (below_step zc3 hb); have n2_ := Aside0.mk (hbox); have n3_ := Aside0.mk ((zc36 : w.heap.size ≤ gb130)); have n4_ := Aside0.mk ((zc36 : w.heap.size ≤ gb130)); have n5_ := Aside0.mk ((zc33 : gb129 ≠ gb130)); have n6_ := Aside0.mk ((zc34 : gb130 ≠ gb129)); clear BK129; clear HB; have BK129 := n0_; have HB := n1_; have BK130 := n2_; have GW130 := n3_; have GE130 := n4_; have NB129_130 := n5_; have NB130_129 := n6_; clear n0_ n1_ n2_ n3_ n4_ n5_ n6_; clear hb hbox hg; have hnb12 := NB129_130.out; have hnc12 := NB130_129.out; have hcz13_0 : w11.cell? ⟨gb129, 0, none⟩ = some (.int .i64 a0_0) := (blk_cell BK129.out 0).trans rfl; have hcz13_1 : w11.cell? ⟨gb129, 1, none⟩ = some (.int .i64 a0_1) := (blk_cell BK129.out 1).trans rfl; have hcz13_2 : w11.cell? ⟨gb129, 2, none⟩ = some (.slice A0_2 l0_2.length c0_2) := (blk_cell BK129.out 2).trans rfl; have hfz13_0 := blk_frozen BK129.out 0; have hfz13_1 := blk_frozen BK129.out 1; have hfz13_2 := blk_frozen BK129.out 2) | (go_at_call 75; (with_reducible refine (spec_l1Abs.calls (wrap64 ((Int.tmod a2 a0_0) - (Int.tmod a3 a0_0))) t131 _ A6.out).mono ?_); rintro e w' ⟨rfl, ⟨nd, rfl⟩⟩; (try first | exact ⟨rfl, _, World.drewN_drewN _ _ _⟩ | exact ⟨rfl, _, Eq.trans (World.drewN_drewN _ _ _) (congrArg (World.drewN _) (Nat.add_assoc _ _ _))⟩)) | (go_at_call 75; (with_reducible refine (spec_l1Abs.calls (wrap64 ((wrap64 (Int.tdiv a2 a0_0)) - (wrap64 (Int.tdiv a3 a0_0)))) t132 _ A7.out).mono ?_); rintro e w' ⟨rfl, ⟨nd, rfl⟩⟩; (try first | exact ⟨rfl, _, World.drewN_drewN _ _ _⟩ | exact ⟨rfl, _, Eq.trans (World.drewN_drewN _ _ _) (congrArg (World.drewN _) (Nat.add_assoc _ _ _))⟩); have hcz14_0 : w11.cell? ⟨gb130, 0, none⟩ = some (.int .i64 a1_0) := (blk_cell BK130.out 0).trans rfl; have hcz14_1 : w11.cell? ⟨gb130, 1, none⟩ = some (.int .i64 a1_1) := (blk_cell BK130.out 1).trans rfl; have hfz14_0 := blk_frozen BK130.out 0; have hfz14_1 := blk_frozen BK130.out 1))
  repeat ((first | go_quiet (first | (go_at_call 75; (with_reducible refine (spec_l1Abs.calls (wrap64 ((Int.tmod a2 a0_0) - (Int.tmod a3 a0_0))) t131 _ A6.out).mono ?_); rintro e w' ⟨rfl, ⟨nd, rfl⟩⟩; (try first | exact ⟨rfl, _, World.drewN_drewN _ _ _⟩ | exact ⟨rfl, _, Eq.trans (World.drewN_drewN _ _ _) (congrArg (World.drewN _) (Nat.add_assoc _ _ _))⟩)) | (go_at_call 75; (with_reducible refine (spec_l1Abs.calls (wrap64 ((wrap64 (Int.tdiv a2 a0_0)) - (wrap64 (Int.tdiv a3 a0_0)))) t132 _ A7.out).mono ?_); rintro e w' ⟨rfl, ⟨nd, rfl⟩⟩; (try first | exact ⟨rfl, _, World.drewN_drewN _ _ _⟩ | exact ⟨rfl, _, Eq.trans (World.drewN_drewN _ _ _) (congrArg (World.drewN _) (Nat.add_assoc _ _ _))⟩); have hcz14_0 : w11.cell? ⟨gb130, 0, none⟩ = some (.int .i64 a1_0) := (blk_cell BK130.out 0).trans rfl; have hcz14_1 : w11.cell? ⟨gb130, 1, none⟩ = some (.int .i64 a1_1) := (blk_cell BK130.out 1).trans rfl; have hfz14_0 := blk_frozen BK130.out 0; have hfz14_1 := blk_frozen BK130.out 1)) | (refine wp_region_quiet_lit (by kernel_rfl) (by kernel_rfl) ?_; (repeat (any_goals (first | go_big_quiet_step (first | (go_at_call 75; (with_reducible refine (spec_l1Abs.calls (wrap64 ((Int.tmod a2 a0_0) - (Int.tmod a3 a0_0))) t131 _ A6.out).mono ?_); rintro e w' ⟨rfl, ⟨nd, rfl⟩⟩; (try first | exact ⟨rfl, _, World.drewN_drewN _ _ _⟩ | exact ⟨rfl, _, Eq.trans (World.drewN_drewN _ _ _) (congrArg (World.drewN _) (Nat.add_assoc _ _ _))⟩)) | (go_at_call 75; (with_reducible refine (spec_l1Abs.calls (wrap64 ((wrap64 (Int.tdiv a2 a0_0)) - (wrap64 (Int.tdiv a3 a0_0)))) t132 _ A7.out).mono ?_); rintro e w' ⟨rfl, ⟨nd, rfl⟩⟩; (try first | exact ⟨rfl, _, World.drewN_drewN _ _ _⟩ | exact ⟨rfl, _, Eq.trans (World.drewN_drewN _ _ _) (congrArg (World.drewN _) (Nat.add_assoc _ _ _))⟩); have hcz14_0 : w11.cell? ⟨gb130, 0, none⟩ = some (.int .i64 a1_0) := (blk_cell BK130.out 0).trans rfl; have hcz14_1 : w11.cell? ⟨gb130, 1, none⟩ = some (.int .i64 a1_1) := (blk_cell BK130.out 1).trans rfl; have hfz14_0 := blk_frozen BK130.out 0; have hfz14_1 := blk_frozen BK130.out 1)) | quiet_step (first | (go_at_call 75; (with_reducible refine (spec_l1Abs.calls (wrap64 ((Int.tmod a2 a0_0) - (Int.tmod a3 a0_0))) t131 _ A6.out).mono ?_); rintro e w' ⟨rfl, ⟨nd, rfl⟩⟩; (try first | exact ⟨rfl, _, World.drewN_drewN _ _ _⟩ | exact ⟨rfl, _, Eq.trans (World.drewN_drewN _ _ _) (congrArg (World.drewN _) (Nat.add_assoc _ _ _))⟩)) | (go_at_call 75; (with_reducible refine (spec_l1Abs.calls (wrap64 ((wrap64 (Int.tdiv a2 a0_0)) - (wrap64 (Int.tdiv a3 a0_0)))) t132 _ A7.out).mono ?_); rintro e w' ⟨rfl, ⟨nd, rfl⟩⟩; (try first | exact ⟨rfl, _, World.drewN_drewN _ _ _⟩ | exact ⟨rfl, _, Eq.trans (World.drewN_drewN _ _ _) (congrArg (World.drewN _) (Nat.add_assoc _ _ _))⟩); have hcz14_0 : w11.cell? ⟨gb130, 0, none⟩ = some (.int .i64 a1_0) := (blk_cell BK130.out 0).trans rfl; have hcz14_1 : w11.cell? ⟨gb130, 1, none⟩ = some (.int .i64 a1_1) := (blk_cell BK130.out 1).trans rfl; have hfz14_0 := blk_frozen BK130.out 0; have hfz14_1 := blk_frozen BK130.out 1))))); all_goals (refine wpQuiet_nil ?_; intro _ hw2_; obtain ⟨nq, hw3_⟩ := hw2_; subst hw3_))); try go_wp2_with (first | ((with_reducible refine gate_dst (N := 4) rfl ?_); refine box_event ?hg (N := 4) ?hd (cs := #[.int .i64 a0_0, .int .i64 a0_1, .slice A0_2 l0_2.length c0_2]) (t := 31) ?hr ?_; (case hd => rfl); (case hg => rfl); (case hr => first | (go_simp; done) | (go_simp; rfl)); intro gb129 hg w10 hbox hb; have n0_ := Aside0.mk (below_step zc2 hb); have n1_ := Aside0.mk (hbox); have n2_ := Aside0.mk ((zc35 : w.heap.size ≤ gb129)); have n3_ := Aside0.mk ((zc35 : w.heap.size ≤ gb129)); clear HB; have HB := n0_; have BK129 := n1_; have GW129 := n2_; have GE129 := n3_; clear n0_ n1_ n2_ n3_; clear hb hbox hg) | ((with_reducible refine gate_dst (N := 5) rfl ?_); refine box_event ?hg (N := 5) ?hd (cs := #[.int .i64 a1_0, .int .i64 a1_1]) (t := 33) ?hr ?_; (case hd => rfl); (case hg => rfl); (case hr => first | (go_simp; done) | (go_simp; rfl)); intro gb130 hg w11 hbox hb; have n0_ := Aside0.mk (blk_below (g := gb129) (o := .cells #[.int .i64 a0_0, .int .i64 a0_1, .slice A0_2 l0_2.length c0_2] 31 (0, 0)) zc4 hb); have n1_ := Aside0.mk (below_step zc3 hb); have n2_ := Aside0.mk (hbox); have n3_ := Aside0.mk ((zc36 : w.heap.size ≤ gb130)); have n4_ := Aside0.mk ((zc36 : w.heap.size ≤ gb130)); have n5_ := Aside0.mk ((zc33 : gb129 ≠ gb130)); have n6_ := Aside0.mk ((zc34 : gb130 ≠ gb129)); clear BK129; clear HB; have BK129 := n0_; have HB := n1_; have BK130 := n2_; have GW130 := n3_; have GE130 := n4_; have NB129_130 := n5_; have NB130_129 := n6_; clear n0_ n1_ n2_ n3_ n4_ n5_ n6_; clear hb hbox hg; have hnb12 := NB129_130.out; have hnc12 := NB130_129.out; have hcz13_0 : w11.cell? ⟨gb129, 0, none⟩ = some (.int .i64 a0_0) := (blk_cell BK129.out 0).trans rfl; have hcz13_1 : w11.cell? ⟨gb129, 1, none⟩ = some (.int .i64 a0_1) := (blk_cell BK129.out 1).trans rfl; have hcz13_2 : w11.cell? ⟨gb129, 2, none⟩ = some (.slice A0_2 l0_2.length c0_2) := (blk_cell BK129.out 2).trans rfl; have hfz13_0 := blk_frozen BK129.out 0; have hfz13_1 := blk_frozen BK129.out 1; have hfz13_2 := blk_frozen BK129.out 2) | (go_at_call 75; (with_reducible refine (spec_l1Abs.calls (wrap64 ((Int.tmod a2 a0_0) - (Int.tmod a3 a0_0))) t131 _ A6.out).mono ?_); rintro e w' ⟨rfl, ⟨nd, rfl⟩⟩; (try first | exact ⟨rfl, _, World.drewN_drewN _ _ _⟩ | exact ⟨rfl, _, Eq.trans (World.drewN_drewN _ _ _) (congrArg (World.drewN _) (Nat.add_assoc _ _ _))⟩)) | (go_at_call 75; (with_reducible refine (spec_l1Abs.calls (wrap64 ((wrap64 (Int.tdiv a2 a0_0)) - (wrap64 (Int.tdiv a3 a0_0)))) t132 _ A7.out).mono ?_); rintro e w' ⟨rfl, ⟨nd, rfl⟩⟩; (try first | exact ⟨rfl, _, World.drewN_drewN _ _ _⟩ | exact ⟨rfl, _, Eq.trans (World.drewN_drewN _ _ _) (congrArg (World.drewN _) (Nat.add_assoc _ _ _))⟩); have hcz14_0 : w11.cell? ⟨gb130, 0, none⟩ = some (.int .i64 a1_0) := (blk_cell BK130.out 0).trans rfl; have hcz14_1 : w11.cell? ⟨gb130, 1, none⟩ = some (.int .i64 a1_1) := (blk_cell BK130.out 1).trans rfl; have hfz14_0 := blk_frozen BK130.out 0; have hfz14_1 := blk_frozen BK130.out 1)))
  go_ret
  exact ⟨zc18, zc17⟩
 rw [if_neg c9] at H
 have c9b0 : (t132 == a1_1) = false := beq_eq_false_iff_ne.mpr c9
 have c9b1 : (t132 != a1_1) = true := bne_iff_ne.mpr c9
 by_cases c15 : t131 = a1_1
 rotate_left
 ·rw [if_neg c15] at H
  have c15b0 : (t131 == a1_1) = false := beq_eq_false_iff_ne.mpr c15
  have c15b1 : (t131 != a1_1) = true := bne_iff_ne.mpr c15
  obtain rfl := Option.some.inj H
  go_enter Try.func54, Try.ntmps54
  go_wp2_with (first | ((with_reducible refine gate_dst (N := 4) rfl ?_); refine box_event ?hg (N := 4) ?hd (cs := #[.int .i64 a0_0, .int .i64 a0_1, .slice A0_2 l0_2.length c0_2]) (t := 31) ?hr ?_; (case hd => rfl); (case hg => rfl); (case hr => first | (go_simp; done) | (go_simp; rfl)); intro gb129 hg w21 hbox hb; have n0_ := Aside0.mk (below_step zc2 hb); have n1_ := Aside0.mk (hbox); have n2_ := Aside0.mk ((zc35 : w.heap.size ≤ gb129)); have n3_ := Aside0.mk ((zc35 : w.heap.size ≤ gb129)); clear HB; have HB := n0_; have BK129 := n1_; have GW129 := n2_; have GE129 := n3_; clear n0_ n1_ n2_ n3_; clear hb hbox hg) | ((with_reducible refine gate_dst (N := 5) rfl ?_); refine box_event ?hg (N := 5) ?hd (cs := #[.int .i64 a1_0, .int .i64 a1_1]) (t := 33) ?hr ?_; (case hd => rfl); (case hg => rfl); (case hr => first | (go_simp; done) | (go_simp; rfl)); intro gb130 hg w22 hbox hb; have n0_ := Aside0.mk (blk_below (g := gb129) (o := .cells #[.int .i64 a0_0, .int .i64 a0_1, .slice A0_2 l0_2.length c0_2] 31 (0, 0)) zc4 hb); have n1_ := Aside0.mk (below_step zc3 hb); have n2_ := Aside0.mk (hbox); have n3_ := Aside0.mk ((zc36 : w.heap.size ≤ gb130)); have n4_ := Aside0.mk ((zc36 : w.heap.size ≤ gb130)); have n5_ := Aside0.mk ((zc33 : gb129 ≠ gb130)); have n6_ := Aside0.mk ((zc34 : gb130 ≠ gb129)); clear BK129; clear HB; have BK129 := n0_; have HB := n1_; have BK130 := n2_; have GW130 := n3_; have GE130 := n4_; have NB129_130 := n5_; have NB130_129 := n6_; clear n0_ n1_ n2_ n3_ n4_ n5_ n6_; clear hb hbox hg; have hnb23 := NB129_130.out; have hnc23 := NB130_129.out; have hcz24_0 : w22.cell? ⟨gb129, 0, none⟩ = some (.int .i64 a0_0) := (blk_cell BK129.out 0).trans rfl; have hcz24_1 : w22.cell? ⟨gb129, 1, none⟩ = some (.int .i64 a0_1) := (blk_cell BK129.out 1).trans rfl; have hcz24_2 : w22.cell? ⟨gb129, 2, none⟩ = some (.slice A0_2 l0_2.length c0_2) := (blk_cell BK129.out 2).trans rfl; have hfz24_0 := blk_frozen BK129.out 0; have hfz24_1 := blk_frozen BK129.out 1; have hfz24_2 := blk_frozen BK129.out 2) | (go_at_call 75; (with_reducible refine (spec_l1Abs.calls (wrap64 ((Int.tmod a2 a0_0) - (Int.tmod a3 a0_0))) t131 _ A6.out).mono ?_); rintro e w' ⟨rfl, ⟨nd, rfl⟩⟩; (try first | exact ⟨rfl, _, World.drewN_drewN _ _ _⟩ | exact ⟨rfl, _, Eq.trans (World.drewN_drewN _ _ _) (congrArg (World.drewN _) (Nat.add_assoc _ _ _))⟩)) | (go_at_call 75; (with_reducible refine (spec_l1Abs.calls (wrap64 ((wrap64 (Int.tdiv a2 a0_0)) - (wrap64 (Int.tdiv a3 a0_0)))) t132 _ A7.out).mono ?_); rintro e w' ⟨rfl, ⟨nd, rfl⟩⟩; (try first | exact ⟨rfl, _, World.drewN_drewN _ _ _⟩ | exact ⟨rfl, _, Eq.trans (World.drewN_drewN _ _ _) (congrArg (World.drewN _) (Nat.add_assoc _ _ _))⟩); have hcz25_0 : w22.cell? ⟨gb130, 0, none⟩ = some (.int .i64 a1_0) := (blk_cell BK130.out 0).trans rfl; have hcz25_1 : w22.cell? ⟨gb130, 1, none⟩ = some (.int .i64 a1_1) := (blk_cell BK130.out 1).trans rfl; have hfz25_0 := blk_frozen BK130.out 0; have hfz25_1 := blk_frozen BK130.out 1))
  repeat ((first | go_quiet (first | (go_at_call 75; (with_reducible refine (spec_l1Abs.calls (wrap64 ((Int.tmod a2 a0_0) - (Int.tmod a3 a0_0))) t131 _ A6.out).mono ?_); rintro e w' ⟨rfl, ⟨nd, rfl⟩⟩; (try first | exact ⟨rfl, _, World.drewN_drewN _ _ _⟩ | exact ⟨rfl, _, Eq.trans (World.drewN_drewN _ _ _) (congrArg (World.drewN _) (Nat.add_assoc _ _ _))⟩)) | (go_at_call 75; (with_reducible refine (spec_l1Abs.calls (wrap64 ((wrap64 (Int.tdiv a2 a0_0)) - (wrap64 (Int.tdiv a3 a0_0)))) t132 _ A7.out).mono ?_); rintro e w' ⟨rfl, ⟨nd, rfl⟩⟩; (try first | exact ⟨rfl, _, World.drewN_drewN _ _ _⟩ | exact ⟨rfl, _, Eq.trans (World.drewN_drewN _ _ _) (congrArg (World.drewN _) (Nat.add_assoc _ _ _))⟩); have hcz25_0 : w22.cell? ⟨gb130, 0, none⟩ = some (.int .i64 a1_0) := (blk_cell BK130.out 0).trans rfl; have hcz25_1 : w22.cell? ⟨gb130, 1, none⟩ = some (.int .i64 a1_1) := (blk_cell BK130.out 1).trans rfl; have hfz25_0 := blk_frozen BK130.out 0; have hfz25_1 := blk_frozen BK130.out 1)) | (refine wp_region_quiet_lit (by kernel_rfl) (by kernel_rfl) ?_; (repeat (any_goals (first | go_big_quiet_step (first | (go_at_call 75; (with_reducible refine (spec_l1Abs.calls (wrap64 ((Int.tmod a2 a0_0) - (Int.tmod a3 a0_0))) t131 _ A6.out).mono ?_); rintro e w' ⟨rfl, ⟨nd, rfl⟩⟩; (try first | exact ⟨rfl, _, World.drewN_drewN _ _ _⟩ | exact ⟨rfl, _, Eq.trans (World.drewN_drewN _ _ _) (congrArg (World.drewN _) (Nat.add_assoc _ _ _))⟩)) | (go_at_call 75; (with_reducible refine (spec_l1Abs.calls (wrap64 ((wrap64 (Int.tdiv a2 a0_0)) - (wrap64 (Int.tdiv a3 a0_0)))) t132 _ A7.out).mono ?_); rintro e w' ⟨rfl, ⟨nd, rfl⟩⟩; (try first | exact ⟨rfl, _, World.drewN_drewN _ _ _⟩ | exact ⟨rfl, _, Eq.trans (World.drewN_drewN _ _ _) (congrArg (World.drewN _) (Nat.add_assoc _ _ _))⟩); have hcz25_0 : w22.cell? ⟨gb130, 0, none⟩ = some (.int .i64 a1_0) := (blk_cell BK130.out 0).trans rfl; have hcz25_1 : w22.cell? ⟨gb130, 1, none⟩ = some (.int .i64 a1_1) := (blk_cell BK130.out 1).trans rfl; have hfz25_0 := blk_frozen BK130.out 0; have hfz25_1 := blk_frozen BK130.out 1)) | quiet_step (first | (go_at_call 75; (with_reducible refine (spec_l1Abs.calls (wrap64 ((Int.tmod a2 a0_0) - (Int.tmod a3 a0_0))) t131 _ A6.out).mono ?_); rintro e w' ⟨rfl, ⟨nd, rfl⟩⟩; (try first | exact ⟨rfl, _, World.drewN_drewN _ _ _⟩ | exact ⟨rfl, _, Eq.trans (World.drewN_drewN _ _ _) (congrArg (World.drewN _) (Nat.add_assoc _ _ _))⟩)) | (go_at_call 75; (with_reducible refine (spec_l1Abs.calls (wrap64 ((wrap64 (Int.tdiv a2 a0_0)) - (wrap64 (Int.tdiv a3 a0_0)))) t132 _ A7.out).mono ?_); rintro e w' ⟨rfl, ⟨nd, rfl⟩⟩; (try first | exact ⟨rfl, _, World.drewN_drewN _ _ _⟩ | exact ⟨rfl, _, Eq.trans (World.drewN_drewN _ _ _) (congrArg (World.drewN _) (Nat.add_assoc _ _ _))⟩); have hcz25_0 : w22.cell? ⟨gb130, 0, none⟩ = some (.int .i64 a1_0) := (blk_cell BK130.out 0).trans rfl; have hcz25_1 : w22.cell? ⟨gb130, 1, none⟩ = some (.int .i64 a1_1) := (blk_cell BK130.out 1).trans rfl; have hfz25_0 := blk_frozen BK130.out 0; have hfz25_1 := blk_frozen BK130.out 1))))); all_goals (refine wpQuiet_nil ?_; intro _ hw2_; obtain ⟨nq, hw3_⟩ := hw2_; subst hw3_))); try go_wp2_with (first | ((with_reducible refine gate_dst (N := 4) rfl ?_); refine box_event ?hg (N := 4) ?hd (cs := #[.int .i64 a0_0, .int .i64 a0_1, .slice A0_2 l0_2.length c0_2]) (t := 31) ?hr ?_; (case hd => rfl); (case hg => rfl); (case hr => first | (go_simp; done) | (go_simp; rfl)); intro gb129 hg w21 hbox hb; have n0_ := Aside0.mk (below_step zc2 hb); have n1_ := Aside0.mk (hbox); have n2_ := Aside0.mk ((zc35 : w.heap.size ≤ gb129)); have n3_ := Aside0.mk ((zc35 : w.heap.size ≤ gb129)); clear HB; have HB := n0_; have BK129 := n1_; have GW129 := n2_; have GE129 := n3_; clear n0_ n1_ n2_ n3_; clear hb hbox hg) | ((with_reducible refine gate_dst (N := 5) rfl ?_); refine box_event ?hg (N := 5) ?hd (cs := #[.int .i64 a1_0, .int .i64 a1_1]) (t := 33) ?hr ?_; (case hd => rfl); (case hg => rfl); (case hr => first | (go_simp; done) | (go_simp; rfl)); intro gb130 hg w22 hbox hb; have n0_ := Aside0.mk (blk_below (g := gb129) (o := .cells #[.int .i64 a0_0, .int .i64 a0_1, .slice A0_2 l0_2.length c0_2] 31 (0, 0)) zc4 hb); have n1_ := Aside0.mk (below_step zc3 hb); have n2_ := Aside0.mk (hbox); have n3_ := Aside0.mk ((zc36 : w.heap.size ≤ gb130)); have n4_ := Aside0.mk ((zc36 : w.heap.size ≤ gb130)); have n5_ := Aside0.mk ((zc33 : gb129 ≠ gb130)); have n6_ := Aside0.mk ((zc34 : gb130 ≠ gb129)); clear BK129; clear HB; have BK129 := n0_; have HB := n1_; have BK130 := n2_; have GW130 := n3_; have GE130 := n4_; have NB129_130 := n5_; have NB130_129 := n6_; clear n0_ n1_ n2_ n3_ n4_ n5_ n6_; clear hb hbox hg; have hnb23 := NB129_130.out; have hnc23 := NB130_129.out; have hcz24_0 : w22.cell? ⟨gb129, 0, none⟩ = some (.int .i64 a0_0) := (blk_cell BK129.out 0).trans rfl; have hcz24_1 : w22.cell? ⟨gb129, 1, none⟩ = some (.int .i64 a0_1) := (blk_cell BK129.out 1).trans rfl; have hcz24_2 : w22.cell? ⟨gb129, 2, none⟩ = some (.slice A0_2 l0_2.length c0_2) := (blk_cell BK129.out 2).trans rfl; have hfz24_0 := blk_frozen BK129.out 0; have hfz24_1 := blk_frozen BK129.out 1; have hfz24_2 := blk_frozen BK129.out 2) | (go_at_call 75; (with_reducible refine (spec_l1Abs.calls (wrap64 ((Int.tmod a2 a0_0) - (Int.tmod a3 a0_0))) t131 _ A6.out).mono ?_); rintro e w' ⟨rfl, ⟨nd, rfl⟩⟩; (try first | exact ⟨rfl, _, World.drewN_drewN _ _ _⟩ | exact ⟨rfl, _, Eq.trans (World.drewN_drewN _ _ _) (congrArg (World.drewN _) (Nat.add_assoc _ _ _))⟩)) | (go_at_call 75; (with_reducible refine (spec_l1Abs.calls (wrap64 ((wrap64 (Int.tdiv a2 a0_0)) - (wrap64 (Int.tdiv a3 a0_0)))) t132 _ A7.out).mono ?_); rintro e w' ⟨rfl, ⟨nd, rfl⟩⟩; (try first | exact ⟨rfl, _, World.drewN_drewN _ _ _⟩ | exact ⟨rfl, _, Eq.trans (World.drewN_drewN _ _ _) (congrArg (World.drewN _) (Nat.add_assoc _ _ _))⟩); have hcz25_0 : w22.cell? ⟨gb130, 0, none⟩ = some (.int .i64 a1_0) := (blk_cell BK130.out 0).trans rfl; have hcz25_1 : w22.cell? ⟨gb130, 1, none⟩ = some (.int .i64 a1_1) := (blk_cell BK130.out 1).trans rfl; have hfz25_0 := blk_frozen BK130.out 0; have hfz25_1 := blk_frozen BK130.out 1)))
  go_ret
  exact ⟨zc18, zc17⟩
 rw [if_pos c15] at H
 have c15b0 : (t131 == a1_1) = true := beq_iff_eq.mpr c15
 have c15b1 : (t131 != a1_1) = false := bne_eq_false_iff_eq.mpr c15
 clear c15
 obtain rfl := Option.some.inj H
 go_enter Try.func54, Try.ntmps54
 go_wp2_with (first | ((with_reducible refine gate_dst (N := 4) rfl ?_); refine box_event ?hg (N := 4) ?hd (cs := #[.int .i64 a0_0, .int .i64 a0_1, .slice A0_2 l0_2.length c0_2]) (t := 31) ?hr ?_; (case hd => rfl); (case hg => rfl); (case hr => first | (go_simp; done) | (go_simp; rfl)); intro gb129 hg w16 hbox hb; have n0_ := Aside0.mk (below_step zc2 hb); have n1_ := Aside0.mk (hbox); have n2_ := Aside0.mk ((zc35 : w.heap.size ≤ gb129)); have n3_ := Aside0.mk ((zc35 : w.heap.size ≤ gb129)); clear HB; have HB := n0_; have BK129 := n1_; have GW129 := n2_; have GE129 := n3_; clear n0_ n1_ n2_ n3_; clear hb hbox hg) | ((with_reducible refine gate_dst (N := 5) rfl ?_); refine box_event ?hg (N := 5) ?hd (cs := #[.int .i64 a1_0, .int .i64 a1_1]) (t := 33) ?hr ?_; (case hd => rfl); (case hg => rfl); (case hr => first | (go_simp; done) | (go_simp; rfl)); intro gb130 hg w17 hbox hb; have n0_ := Aside0.mk (blk_below (g := gb129) (o := .cells #[.int .i64 a0_0, .int .i64 a0_1, .slice A0_2 l0_2.length c0_2] 31 (0, 0)) zc4 hb); have n1_ := Aside0.mk (below_step zc3 hb); have n2_ := Aside0.mk (hbox); have n3_ := Aside0.mk ((zc36 : w.heap.size ≤ gb130)); have n4_ := Aside0.mk ((zc36 : w.heap.size ≤ gb130)); have n5_ := Aside0.mk ((zc33 : gb129 ≠ gb130)); have n6_ := Aside0.mk ((zc34 : gb130 ≠ gb129)); clear BK129; clear HB; have BK129 := n0_; have HB := n1_; have BK130 := n2_; have GW130 := n3_; have GE130 := n4_; have NB129_130 := n5_; have NB130_129 := n6_; clear n0_ n1_ n2_ n3_ n4_ n5_ n6_; clear hb hbox hg; have hnb18 := NB129_130.out; have hnc18 := NB130_129.out; have hcz19_0 : w17.cell? ⟨gb129, 0, none⟩ = some (.int .i64 a0_0) := (blk_cell BK129.out 0).trans rfl; have hcz19_1 : w17.cell? ⟨gb129, 1, none⟩ = some (.int .i64 a0_1) := (blk_cell BK129.out 1).trans rfl; have hcz19_2 : w17.cell? ⟨gb129, 2, none⟩ = some (.slice A0_2 l0_2.length c0_2) := (blk_cell BK129.out 2).trans rfl; have hfz19_0 := blk_frozen BK129.out 0; have hfz19_1 := blk_frozen BK129.out 1; have hfz19_2 := blk_frozen BK129.out 2) | (go_at_call 75; (with_reducible refine (spec_l1Abs.calls (wrap64 ((Int.tmod a2 a0_0) - (Int.tmod a3 a0_0))) t131 _ A6.out).mono ?_); rintro e w' ⟨rfl, ⟨nd, rfl⟩⟩; (try first | exact ⟨rfl, _, World.drewN_drewN _ _ _⟩ | exact ⟨rfl, _, Eq.trans (World.drewN_drewN _ _ _) (congrArg (World.drewN _) (Nat.add_assoc _ _ _))⟩)) | (go_at_call 75; (with_reducible refine (spec_l1Abs.calls (wrap64 ((wrap64 (Int.tdiv a2 a0_0)) - (wrap64 (Int.tdiv a3 a0_0)))) t132 _ A7.out).mono ?_); rintro e w' ⟨rfl, ⟨nd, rfl⟩⟩; (try first | exact ⟨rfl, _, World.drewN_drewN _ _ _⟩ | exact ⟨rfl, _, Eq.trans (World.drewN_drewN _ _ _) (congrArg (World.drewN _) (Nat.add_assoc _ _ _))⟩); have hcz20_0 : w17.cell? ⟨gb130, 0, none⟩ = some (.int .i64 a1_0) := (blk_cell BK130.out 0).trans rfl; have hcz20_1 : w17.cell? ⟨gb130, 1, none⟩ = some (.int .i64 a1_1) := (blk_cell BK130.out 1).trans rfl; have hfz20_0 := blk_frozen BK130.out 0; have hfz20_1 := blk_frozen BK130.out 1))
 repeat ((first | go_quiet (first | (go_at_call 75; (with_reducible refine (spec_l1Abs.calls (wrap64 ((Int.tmod a2 a0_0) - (Int.tmod a3 a0_0))) t131 _ A6.out).mono ?_); rintro e w' ⟨rfl, ⟨nd, rfl⟩⟩; (try first | exact ⟨rfl, _, World.drewN_drewN _ _ _⟩ | exact ⟨rfl, _, Eq.trans (World.drewN_drewN _ _ _) (congrArg (World.drewN _) (Nat.add_assoc _ _ _))⟩)) | (go_at_call 75; (with_reducible refine (spec_l1Abs.calls (wrap64 ((wrap64 (Int.tdiv a2 a0_0)) - (wrap64 (Int.tdiv a3 a0_0)))) t132 _ A7.out).mono ?_); rintro e w' ⟨rfl, ⟨nd, rfl⟩⟩; (try first | exact ⟨rfl, _, World.drewN_drewN _ _ _⟩ | exact ⟨rfl, _, Eq.trans (World.drewN_drewN _ _ _) (congrArg (World.drewN _) (Nat.add_assoc _ _ _))⟩); have hcz20_0 : w17.cell? ⟨gb130, 0, none⟩ = some (.int .i64 a1_0) := (blk_cell BK130.out 0).trans rfl; have hcz20_1 : w17.cell? ⟨gb130, 1, none⟩ = some (.int .i64 a1_1) := (blk_cell BK130.out 1).trans rfl; have hfz20_0 := blk_frozen BK130.out 0; have hfz20_1 := blk_frozen BK130.out 1)) | (refine wp_region_quiet_lit (by kernel_rfl) (by kernel_rfl) ?_; (repeat (any_goals (first | go_big_quiet_step (first | (go_at_call 75; (with_reducible refine (spec_l1Abs.calls (wrap64 ((Int.tmod a2 a0_0) - (Int.tmod a3 a0_0))) t131 _ A6.out).mono ?_); rintro e w' ⟨rfl, ⟨nd, rfl⟩⟩; (try first | exact ⟨rfl, _, World.drewN_drewN _ _ _⟩ | exact ⟨rfl, _, Eq.trans (World.drewN_drewN _ _ _) (congrArg (World.drewN _) (Nat.add_assoc _ _ _))⟩)) | (go_at_call 75; (with_reducible refine (spec_l1Abs.calls (wrap64 ((wrap64 (Int.tdiv a2 a0_0)) - (wrap64 (Int.tdiv a3 a0_0)))) t132 _ A7.out).mono ?_); rintro e w' ⟨rfl, ⟨nd, rfl⟩⟩; (try first | exact ⟨rfl, _, World.drewN_drewN _ _ _⟩ | exact ⟨rfl, _, Eq.trans (World.drewN_drewN _ _ _) (congrArg (World.drewN _) (Nat.add_assoc _ _ _))⟩); have hcz20_0 : w17.cell? ⟨gb130, 0, none⟩ = some (.int .i64 a1_0) := (blk_cell BK130.out 0).trans rfl; have hcz20_1 : w17.cell? ⟨gb130, 1, none⟩ = some (.int .i64 a1_1) := (blk_cell BK130.out 1).trans rfl; have hfz20_0 := blk_frozen BK130.out 0; have hfz20_1 := blk_frozen BK130.out 1)) | quiet_step (first | (go_at_call 75; (with_reducible refine (spec_l1Abs.calls (wrap64 ((Int.tmod a2 a0_0) - (Int.tmod a3 a0_0))) t131 _ A6.out).mono ?_); rintro e w' ⟨rfl, ⟨nd, rfl⟩⟩; (try first | exact ⟨rfl, _, World.drewN_drewN _ _ _⟩ | exact ⟨rfl, _, Eq.trans (World.drewN_drewN _ _ _) (congrArg (World.drewN _) (Nat.add_assoc _ _ _))⟩)) | (go_at_call 75; (with_reducible refine (spec_l1Abs.calls (wrap64 ((wrap64 (Int.tdiv a2 a0_0)) - (wrap64 (Int.tdiv a3 a0_0)))) t132 _ A7.out).mono ?_); rintro e w' ⟨rfl, ⟨nd, rfl⟩⟩; (try first | exact ⟨rfl, _, World.drewN_drewN _ _ _⟩ | exact ⟨rfl, _, Eq.trans (World.drewN_drewN _ _ _) (congrArg (World.drewN _) (Nat.add_assoc _ _ _))⟩); have hcz20_0 : w17.cell? ⟨gb130, 0, none⟩ = some (.int .i64 a1_0) := (blk_cell BK130.out 0).trans rfl; have hcz20_1 : w17.cell? ⟨gb130, 1, none⟩ = some (.int .i64 a1_1) := (blk_cell BK130.out 1).trans rfl; have hfz20_0 := blk_frozen BK130.out 0; have hfz20_1 := blk_frozen BK130.out 1))))); all_goals (refine wpQuiet_nil ?_; intro _ hw2_; obtain ⟨nq, hw3_⟩ := hw2_; subst hw3_))); try go_wp2_with (first | ((with_reducible refine gate_dst (N := 4) rfl ?_); refine box_event ?hg (N := 4) ?hd (cs := #[.int .i64 a0_0, .int .i64 a0_1, .slice A0_2 l0_2.length c0_2]) (t := 31) ?hr ?_; (case hd => rfl); (case hg => rfl); (case hr => first | (go_simp; done) | (go_simp; rfl)); intro gb129 hg w16 hbox hb; have n0_ := Aside0.mk (below_step zc2 hb); have n1_ := Aside0.mk (hbox); have n2_ := Aside0.mk ((zc35 : w.heap.size ≤ gb129)); have n3_ := Aside0.mk ((zc35 : w.heap.size ≤ gb129)); clear HB; have HB := n0_; have BK129 := n1_; have GW129 := n2_; have GE129 := n3_; clear n0_ n1_ n2_ n3_; clear hb hbox hg) | ((with_reducible refine gate_dst (N := 5) rfl ?_); refine box_event ?hg (N := 5) ?hd (cs := #[.int .i64 a1_0, .int .i64 a1_1]) (t := 33) ?hr ?_; (case hd => rfl); (case hg => rfl); (case hr => first | (go_simp; done) | (go_simp; rfl)); intro gb130 hg w17 hbox hb; have n0_ := Aside0.mk (blk_below (g := gb129) (o := .cells #[.int .i64 a0_0, .int .i64 a0_1, .slice A0_2 l0_2.length c0_2] 31 (0, 0)) zc4 hb); have n1_ := Aside0.mk (below_step zc3 hb); have n2_ := Aside0.mk (hbox); have n3_ := Aside0.mk ((zc36 : w.heap.size ≤ gb130)); have n4_ := Aside0.mk ((zc36 : w.heap.size ≤ gb130)); have n5_ := Aside0.mk ((zc33 : gb129 ≠ gb130)); have n6_ := Aside0.mk ((zc34 : gb130 ≠ gb129)); clear BK129; clear HB; have BK129 := n0_; have HB := n1_; have BK130 := n2_; have GW130 := n3_; have GE130 := n4_; have NB129_130 := n5_; have NB130_129 := n6_; clear n0_ n1_ n2_ n3_ n4_ n5_ n6_; clear hb hbox hg; have hnb18 := NB129_130.out; have hnc18 := NB130_129.out; have hcz19_0 : w17.cell? ⟨gb129, 0, none⟩ = some (.int .i64 a0_0) := (blk_cell BK129.out 0).trans rfl; have hcz19_1 : w17.cell? ⟨gb129, 1, none⟩ = some (.int .i64 a0_1) := (blk_cell BK129.out 1).trans rfl; have hcz19_2 : w17.cell? ⟨gb129, 2, none⟩ = some (.slice A0_2 l0_2.length c0_2) := (blk_cell BK129.out 2).trans rfl; have hfz19_0 := blk_frozen BK129.out 0; have hfz19_1 := blk_frozen BK129.out 1; have hfz19_2 := blk_frozen BK129.out 2) | (go_at_call 75; (with_reducible refine (spec_l1Abs.calls (wrap64 ((Int.tmod a2 a0_0) - (Int.tmod a3 a0_0))) t131 _ A6.out).mono ?_); rintro e w' ⟨rfl, ⟨nd, rfl⟩⟩; (try first | exact ⟨rfl, _, World.drewN_drewN _ _ _⟩ | exact ⟨rfl, _, Eq.trans (World.drewN_drewN _ _ _) (congrArg (World.drewN _) (Nat.add_assoc _ _ _))⟩)) | (go_at_call 75; (with_reducible refine (spec_l1Abs.calls (wrap64 ((wrap64 (Int.tdiv a2 a0_0)) - (wrap64 (Int.tdiv a3 a0_0)))) t132 _ A7.out).mono ?_); rintro e w' ⟨rfl, ⟨nd, rfl⟩⟩; (try first | exact ⟨rfl, _, World.drewN_drewN _ _ _⟩ | exact ⟨rfl, _, Eq.trans (World.drewN_drewN _ _ _) (congrArg (World.drewN _) (Nat.add_assoc _ _ _))⟩); have hcz20_0 : w17.cell? ⟨gb130, 0, none⟩ = some (.int .i64 a1_0) := (blk_cell BK130.out 0).trans rfl; have hcz20_1 : w17.cell? ⟨gb130, 1, none⟩ = some (.int .i64 a1_1) := (blk_cell BK130.out 1).trans rfl; have hfz20_0 := blk_frozen BK130.out 0; have hfz20_1 := blk_frozen BK130.out 1)))
 go_ret
 exact ⟨zc18, zc17⟩

/-! ### spec_boLeaps: function 30 -/
def spec_boLeaps.l0 : Nat → Int → List Int → List Int → Int → Int → Int → Int → List Int → Int → Int → Option (List Int)
 | 0, _, _, _, _, _, _, _, _, _, _ => none
 | k + 1, x2, x7, x11, x12, x13, x134000, x134001, x134002, x135000, x135001 => if x13 < x12 then (if 0 ≤ x13 then (if x13 < (x11.length : Int) then ((spec_boIs.f x134000 x134001 x134002 x135000 x135001 x2 (rd x11 x13)).bind fun t139 => (if t139 = true then (if x7.length < 17592186044416 then (spec_boLeaps.l0 k x2 (x7 ++ [rd x11 x13]) x11 x12 (wrap64 (x13 + 1)) x134000 x134001 x134002 x135000 x135001) else (none)) else (spec_boLeaps.l0 k x2 x7 x11 x12 (wrap64 (x13 + 1)) x134000 x134001 x134002 x135000 x135001))) else (none)) else (none)) else (some x7)
def spec_boLeaps.f (k : Nat) (a0_0 : Int) (a0_1 : Int) (l0_2 : List Int) (a1_0 : Int) (a1_1 : Int) (a2 : Int) : Option (List Int) := (spec_boCells.f k a0_0 a0_1 l0_2).bind fun t135 => (spec_boLeaps.l0 k a2 ([] : List Int) t135 (t135.length : Int) 0 a0_0 a0_1 l0_2 a1_0 a1_1)
set_option maxHeartbeats 8000000 in
set_option maxRecDepth 100000 in
theorem spec_boLeaps.calls (k : Nat) (a0_0 : Int) (a0_1 : Int) (A0_2 : Option Addr) (c0_2 : Nat) (l0_2 : List Int) (a1_0 : Int) (a1_1 : Int) (a2 : Int) (r : List Int) (w : World) (hr0_2 : Kd.C (Kd.int .i64) w A0_2 l0_2.length l0_2) (hc0_2 : l0_2.length ≤ c0_2) (h : spec_boLeaps.f k a0_0 a0_1 l0_2 a1_0 a1_1 a2 = some r) :
  Calls Try.prog 30 #[.agg #[.int .i64 a0_0, .int .i64 a0_1, .slice A0_2 l0_2.length c0_2], .agg #[.int .i64 a1_0, .int .i64 a1_1], .int .i64 a2] w fun e w' => ∃ v0_ : Value, e = .returned (v0_) ∧ Kd.R (Kd.int .i64) 3 w' w.heap.size (fun _ => True) v0_ r ∧ Below w.heap.size w w' := by
 have hu31 := Try.underlying31
 have hu33 := Try.underlying33
 have HR0_2 := Aside0.mk hr0_2
 have HC0_2 := Aside0.mk hc0_2
 clear hr0_2 hc0_2
 have HB := Aside0.mk (Below.refl w.heap.size w)
 have H : ((spec_boCells.f k a0_0 a0_1 l0_2).bind fun t135 => (spec_boLeaps.l0 k a2 ([] : List Int) t135 (t135.length : Int) 0 a0_0 a0_1 l0_2 a1_0 a1_1)) = some r := h
 clear h
 replace H := Option.bind_eq_some_iff.mp H
 obtain ⟨t135, A40, H⟩ := H
 replace H : (spec_boLeaps.l0 k a2 ([] : List Int) t135 (t135.length : Int) 0 a0_0 a0_1 l0_2 a1_0 a1_1) = some r := H
 have A4 := Aside0.mk A40
 clear A40
 have H' := Aside0.mk H
 clear H
 go_enter Try.func30, Try.ntmps30
 go_wp2_with (first | ((with_reducible refine gate_dst (N := 3) rfl ?_); refine box_event ?hg (N := 3) ?hd (cs := #[.int .i64 a0_0, .int .i64 a0_1, .slice A0_2 l0_2.length c0_2]) (t := 31) ?hr ?_; (case hd => rfl); (case hg => rfl); (case hr => first | (go_simp; done) | (go_simp; rfl)); intro gb133 hg w5 hbox hb; have n0_ := Aside0.mk (below_step zc2 hb); have n1_ := Aside0.mk (hbox); have n2_ := Aside0.mk ((zc35 : w.heap.size ≤ gb133)); have n3_ := Aside0.mk ((zc35 : w.heap.size ≤ gb133)); clear HB; have HB := n0_; have BK133 := n1_; have GW133 := n2_; have GE133 := n3_; clear n0_ n1_ n2_ n3_; clear hb hbox hg) | ((with_reducible refine gate_dst (N := 4) rfl ?_); refine box_event ?hg (N := 4) ?hd (cs := #[.int .i64 a1_0, .int .i64 a1_1]) (t := 33) ?hr ?_; (case hd => rfl); (case hg => rfl); (case hr => first | (go_simp; done) | (go_simp; rfl)); intro gb134 hg w6 hbox hb; have n0_ := Aside0.mk (blk_below (g := gb133) (o := .cells #[.int .i64 a0_0, .int .i64 a0_1, .slice A0_2 l0_2.length c0_2] 31 (0, 0)) zc15 hb); have n1_ := Aside0.mk (below_step zc24 hb); have n2_ := Aside0.mk (hbox); have n3_ := Aside0.mk ((by rw [hg]; exact (below_size zc24) : w.heap.size ≤ gb134)); have n4_ := Aside0.mk ((by rw [hg]; exact (below_size zc24) : w.heap.size ≤ gb134)); have n5_ := Aside0.mk ((by rw [hg]; exact Nat.ne_of_lt (blk_lt (g := gb133) (o := .cells #[.int .i64 a0_0, .int .i64 a0_1, .slice A0_2 l0_2.length c0_2] 31 (0, 0)) zc15) : gb133 ≠ gb134)); have n6_ := Aside0.mk ((by rw [hg]; exact Nat.ne_of_gt (blk_lt (g := gb133) (o := .cells #[.int .i64 a0_0, .int .i64 a0_1, .slice A0_2 l0_2.length c0_2] 31 (0, 0)) zc15) : gb134 ≠ gb133)); clear BK133; clear HB; have BK133 := n0_; have HB := n1_; have BK134 := n2_; have GW134 := n3_; have GE134 := n4_; have NB133_134 := n5_; have NB134_133 := n6_; clear n0_ n1_ n2_ n3_ n4_ n5_ n6_; clear hb hbox hg; have hnb7 := NB133_134.out; have hnc7 := NB134_133.out; have hcz8_0 : w6.cell? ⟨gb133, 0, none⟩ = some (.int .i64 a0_0) := (blk_cell BK133.out 0).trans rfl; have hcz8_1 : w6.cell? ⟨gb133, 1, none⟩ = some (.int .i64 a0_1) := (blk_cell BK133.out 1).trans rfl; have hcz8_2 : w6.cell? ⟨gb133, 2, none⟩ = some (.slice A0_2 l0_2.length c0_2) := (blk_cell BK133.out 2).trans rfl; have hfz8_0 := blk_frozen BK133.out 0; have hfz8_1 := blk_frozen BK133.out 1; have hfz8_2 := blk_frozen BK133.out 2) | ((with_reducible refine gate_callee (f := 29) rfl ?_); refine goesL_ (some 11) rfl rfl Try.func29 (by kernel_rfl) rfl #[.agg #[.int .i64 a0_0, .int .i64 a0_1, .slice A0_2 l0_2.length c0_2]] rfl zc12 ?_; (with_reducible refine (spec_boCells.calls k a0_0 a0_1 _ _ l0_2 t135 _ ?side1 ?side2 A4.out).mono ?_); (case side1 => exact zc7); (case side2 => exact HC0_2.out); rintro e w9 ⟨v136, rfl, ho0, hb⟩; refine ⟨_, rfl, ?_⟩; have n0_ := Aside0.mk (Kd.R_lower ho0 (below_size zc10)); have n1_ := Aside0.mk (blk_below (g := gb133) (o := .cells #[.int .i64 a0_0, .int .i64 a0_1, .slice A0_2 l0_2.length c0_2] 31 (0, 0)) zc15 hb); have n2_ := Aside0.mk (blk_below (g := gb134) (o := .cells #[.int .i64 a1_0, .int .i64 a1_1] 33 (0, 0)) zc19 hb); have n3_ := Aside0.mk (below_step zc10 hb); clear BK133; clear BK134; clear HB; have HO137 := n0_; have BK133 := n1_; have BK134 := n2_; have HB := n3_; clear n0_ n1_ n2_ n3_; (try clear hb); (try clear hb2); (try clear hk); (try clear hi); (try clear ho0); (try clear hna_); (try clear hnb_); obtain ⟨Ao10, co10, eo10⟩ := Kd.R_slice HO137.out; subst eo10))
 go_loopg [7, 13] k (fun kq v7 v13 w' => ∃ (x7_1 : List Int) (x13_1 : Int), v13 = .int .i64 x13_1 ∧ Aside0 (spec_boLeaps.l0 kq a2 x7_1 t135 (t135.length : Int) x13_1 a0_0 a0_1 l0_2 a1_0 a1_1 = some r) ∧ Aside0 (kq ≤ k) ∧ Aside0 (Kd.R (Kd.int .i64) 3 w' w.heap.size (fun k_ => some k_ ≠ ((.slice Ao10 t135.length co10) : Value).ownBlock) v7 x7_1) ∧ Aside0 (Kd.R (Kd.int .i64) 3 w' w.heap.size (fun k_ => some k_ ≠ (v7 : Value).ownBlock) (.slice Ao10 t135.length co10) t135) ∧ Aside0 (w'.heap[gb133]? = some (.cells #[.int .i64 a0_0, .int .i64 a0_1, (.slice A0_2 l0_2.length c0_2)] 31 (0, 0))) ∧ Aside0 (w'.heap[gb134]? = some (.cells #[.int .i64 a1_0, .int .i64 a1_1] 33 (0, 0))) ∧ Aside0 (Below w.heap.size w w'))
 case atStart => exact ⟨(([] : List Int)), (0), zc20, H', ⟨Nat.le_refl _⟩, ⟨zc30⟩, ⟨by (with_reducible repeat (first | apply Kd.R_alloc | apply Kd.R_drewN | apply Kd.R_drew)); exact Kd.R_mono HO137.out (fun _ hk => (by simp [Value.ownBlock]))⟩, ⟨zc15⟩, ⟨zc19⟩, ⟨zc10⟩⟩
 case round =>
  clear H'
  try clear c2; try clear p2; try clear c3; try clear c7; try clear hcz8_0; try clear hcz8_1; try clear hcz8_2; try clear hfz8_0; try clear hfz8_1; try clear hfz8_2
  obtain ⟨x7_1, x13_1, rfl, HA, HK1, HO_7, HO_11, BK133, BK134, HB⟩ := hrel
  cases gk with
  | zero => exact absurd HA.out (by simp [spec_boLeaps.l0])
  | succ k1 =>
   have H := HA.out
   clear HA
   simp only [spec_boLeaps.l0] at H
   by_cases c11 : x13_1 < (t135.length : Int)
   rotate_left
   ·rw [if_neg c11] at H
    have c11b0 : decide (x13_1 < (t135.length : Int)) = false := decide_eq_false c11
    clear c11
    obtain rfl := Option.some.inj H
    go_wp2
    go_ret
    exact ⟨_, zc18, by (with_reducible repeat (first | apply Kd.R_alloc | apply Kd.R_drewN | apply Kd.R_drew)); exact Kd.R_mono HO_7.out (fun _ hk => trivial), zc10⟩
   rw [if_pos c11] at H
   have c11b0 : decide (x13_1 < (t135.length : Int)) = true := decide_eq_true c11
   clear c11
   by_cases c12 : 0 ≤ x13_1
   rotate_left
   ·rw [if_neg c12] at H
    exact absurd H (by simp)
   rw [if_pos c12] at H
   have c12b0 : decide (0 ≤ x13_1) = true := decide_eq_true c12
   clear c12
   by_cases c13 : x13_1 < (t135.length : Int)
   rotate_left
   ·rw [if_neg c13] at H
    exact absurd H (by simp)
   rw [if_pos c13] at H
   have c13b0 : decide (x13_1 < (t135.length : Int)) = true := decide_eq_true c13
   clear c13
   replace H := Option.bind_eq_some_iff.mp H
   obtain ⟨t139, A140, H⟩ := H
   replace H : (if t139 = true then (if x7_1.length < 17592186044416 then (spec_boLeaps.l0 k1 a2 (x7_1 ++ [rd t135 x13_1]) t135 (t135.length : Int) (wrap64 (x13_1 + 1)) a0_0 a0_1 l0_2 a1_0 a1_1) else (none)) else (spec_boLeaps.l0 k1 a2 x7_1 t135 (t135.length : Int) (wrap64 (x13_1 + 1)) a0_0 a0_1 l0_2 a1_0 a1_1)) = some r := H
   have A14 := Aside0.mk A140
   clear A140
   by_cases c15 : t139 = true
   rotate_left
   ·replace c15 := Bool.eq_false_iff.mpr c15
    subst c15
    have H1 : (spec_boLeaps.l0 k1 a2 x7_1 t135 (t135.length : Int) (wrap64 (x13_1 + 1)) a0_0 a0_1 l0_2 a1_0 a1_1) = some r := by rw [if_neg (show ¬ (false = true) by decide)] at H; exact H
    clear H
    have H := H1
    clear H1
    have H' := Aside0.mk H
    clear H
    have p138 : 0 ≤ (x13_1 : Int) := of_decide_eq_true zc21
    have q138 : x13_1 < (t135.length : Int) := of_decide_eq_true zc21
    obtain ⟨ad138, e138, hx138_0⟩ := Kd.at_int (Kd.R_reads' HO_11.out).2.2 x13_1 p138 q138
    cases e138
    replace p138 := eq_true p138
    replace q138 := eq_true q138
    have hnb22 := NB133_134.out
    have hnc22 := NB134_133.out
    have hcz23_0 : wr.cell? ⟨gb133, 0, none⟩ = some (.int .i64 a0_0) := (blk_cell BK133.out 0).trans rfl
    have hcz23_1 : wr.cell? ⟨gb133, 1, none⟩ = some (.int .i64 a0_1) := (blk_cell BK133.out 1).trans rfl
    have hcz23_2 : wr.cell? ⟨gb133, 2, none⟩ = some (.slice A0_2 l0_2.length c0_2) := (blk_cell BK133.out 2).trans rfl
    have hfz23_0 := blk_frozen BK133.out 0
    have hfz23_1 := blk_frozen BK133.out 1
    have hfz23_2 := blk_frozen BK133.out 2
    have hcz24_0 : wr.cell? ⟨gb134, 0, none⟩ = some (.int .i64 a1_0) := (blk_cell BK134.out 0).trans rfl
    have hcz24_1 : wr.cell? ⟨gb134, 1, none⟩ = some (.int .i64 a1_1) := (blk_cell BK134.out 1).trans rfl
    have hfz24_0 := blk_frozen BK134.out 0
    have hfz24_1 := blk_frozen BK134.out 1
    go_wp2_with (first | ((with_reducible refine gate_callee (f := 54) rfl ?_); refine goesL_ (some 21) rfl rfl Try.func54 (by kernel_rfl) rfl #[.agg #[.int .i64 a0_0, .int .i64 a0_1, .slice A0_2 l0_2.length c0_2], .agg #[.int .i64 a1_0, .int .i64 a1_1], .int .i64 a2, .int .i64 (rd t135 x13_1)] rfl zc12 ?_; (with_reducible refine (spec_boIs.calls a0_0 a0_1 _ _ l0_2 a1_0 a1_1 a2 (rd t135 x13_1) false _ ?side1 ?side2 A14.out).mono ?_); (case side1 => exact zc7); (case side2 => exact HC0_2.out); rintro e w25 ⟨rfl, hb⟩; refine ⟨_, rfl, ?_⟩; have n0_ := Aside0.mk (Kd.R_below zc27 hb); have n1_ := Aside0.mk (Kd.R_below zc25 hb); have n2_ := Aside0.mk (blk_below (g := gb133) (o := .cells #[.int .i64 a0_0, .int .i64 a0_1, .slice A0_2 l0_2.length c0_2] 31 (0, 0)) zc15 hb); have n3_ := Aside0.mk (blk_below (g := gb134) (o := .cells #[.int .i64 a1_0, .int .i64 a1_1] 33 (0, 0)) zc19 hb); have n4_ := Aside0.mk (below_step zc10 hb); clear HO_7; clear HO_11; clear BK133; clear BK134; clear HB; have HO_7 := n0_; have HO_11 := n1_; have BK133 := n2_; have BK134 := n3_; have HB := n4_; clear n0_ n1_ n2_ n3_ n4_; (try clear hb); (try clear hb2); (try clear hk); (try clear hi); (try clear hna_); (try clear hnb_)))
    go_roundg k1
    case measure => have := HK1.out; omega
    case rel => exact ⟨(x7_1), (wrap64 (x13_1 + 1)), zc20, H', ⟨by have := HK1.out; omega⟩, ⟨zc27⟩, ⟨zc25⟩, ⟨zc15⟩, ⟨zc19⟩, ⟨zc10⟩⟩
   subst c15
   have H1 : (if x7_1.length < 17592186044416 then (spec_boLeaps.l0 k1 a2 (x7_1 ++ [rd t135 x13_1]) t135 (t135.length : Int) (wrap64 (x13_1 + 1)) a0_0 a0_1 l0_2 a1_0 a1_1) else (none)) = some r := by rw [if_pos rfl] at H; exact H
   clear H
   have H := H1
   clear H1
   by_cases c16 : x7_1.length < 17592186044416
   rotate_left
   ·rw [if_neg c16] at H
    exact absurd H (by simp)
   rw [if_pos c16] at H
   have LMc16 := Aside0.mk c16
   clear c16
   obtain ⟨y140, hy140⟩ : ∃ y_ : List Int, y_ = (x7_1 ++ [rd t135 x13_1]) := ⟨_, rfl⟩
   replace H : (spec_boLeaps.l0 k1 a2 y140 t135 (t135.length : Int) (wrap64 (x13_1 + 1)) a0_0 a0_1 l0_2 a1_0 a1_1) = some r := by first | (rw [hy140]; with_reducible exact H) | (have H2_ := (Option.bind_some _ _).symm.trans H; rw [hy140]; with_reducible exact H2_) | (have H2_ := (Option.bind_some _ _).symm.trans H; with_reducible exact H2_) | with_reducible exact H | (rw [hy140]; exact H) | exact H
   have Ny140 := Aside0.mk hy140
   clear hy140
   have H' := Aside0.mk H
   clear H
   have p138 : 0 ≤ (x13_1 : Int) := of_decide_eq_true zc21
   have q138 : x13_1 < (t135.length : Int) := of_decide_eq_true zc21
   obtain ⟨ad138, e138, hx138_0⟩ := Kd.at_int (Kd.R_reads' HO_11.out).2.2 x13_1 p138 q138
   cases e138
   replace p138 := eq_true p138
   replace q138 := eq_true q138
   have hnb17 := NB133_134.out
   have hnc17 := NB134_133.out
   have hcz18_0 : wr.cell? ⟨gb133, 0, none⟩ = some (.int .i64 a0_0) := (blk_cell BK133.out 0).trans rfl
   have hcz18_1 : wr.cell? ⟨gb133, 1, none⟩ = some (.int .i64 a0_1) := (blk_cell BK133.out 1).trans rfl
   have hcz18_2 : wr.cell? ⟨gb133, 2, none⟩ = some (.slice A0_2 l0_2.length c0_2) := (blk_cell BK133.out 2).trans rfl
   have hfz18_0 := blk_frozen BK133.out 0
   have hfz18_1 := blk_frozen BK133.out 1
   have hfz18_2 := blk_frozen BK133.out 2
   have hcz19_0 : wr.cell? ⟨gb134, 0, none⟩ = some (.int .i64 a1_0) := (blk_cell BK134.out 0).trans rfl
   have hcz19_1 : wr.cell? ⟨gb134, 1, none⟩ = some (.int .i64 a1_1) := (blk_cell BK134.out 1).trans rfl
   have hfz19_0 := blk_frozen BK134.out 0
   have hfz19_1 := blk_frozen BK134.out 1
   go_wp2_with (first | ((with_reducible refine gate_callee (f := 54) rfl ?_); refine goesL_ (some 21) rfl rfl Try.func54 (by kernel_rfl) rfl #[.agg #[.int .i64 a0_0, .int .i64 a0_1, .slice A0_2 l0_2.length c0_2], .agg #[.int .i64 a1_0, .int .i64 a1_1], .int .i64 a2, .int .i64 (rd t135 x13_1)] rfl zc12 ?_; (with_reducible refine (spec_boIs.calls a0_0 a0_1 _ _ l0_2 a1_0 a1_1 a2 (rd t135 x13_1) true _ ?side1 ?side2 A14.out).mono ?_); (case side1 => exact zc7); (case side2 => exact HC0_2.out); rintro e w20 ⟨rfl, hb⟩; refine ⟨_, rfl, ?_⟩; have n0_ := Aside0.mk (Kd.R_below zc27 hb); have n1_ := Aside0.mk (Kd.R_below zc25 hb); have n2_ := Aside0.mk (blk_below (g := gb133) (o := .cells #[.int .i64 a0_0, .int .i64 a0_1, .slice A0_2 l0_2.length c0_2] 31 (0, 0)) zc15 hb); have n3_ := Aside0.mk (blk_below (g := gb134) (o := .cells #[.int .i64 a1_0, .int .i64 a1_1] 33 (0, 0)) zc19 hb); have n4_ := Aside0.mk (below_step zc10 hb); clear HO_7; clear HO_11; clear BK133; clear BK134; clear HB; have HO_7 := n0_; have HO_11 := n1_; have BK133 := n2_; have BK134 := n3_; have HB := n4_; clear n0_ n1_ n2_ n3_ n4_; (try clear hb); (try clear hb2); (try clear hk); (try clear hi); (try clear hna_); (try clear hnb_)) | ((with_reducible refine gate_builtin (b := .append) (xs := #[.tmp 22, .tmp 24]) rfl ?_); at_builtin; refine Kd.R_append (Kd.int .i64) (w0 := w) w.heap.size rfl (.tmp 22) (.tmp 24) 22 3 (.int .i64 0) 8 rfl Try.underlying22 info3 rfl (by decide) (by omega) u7 x7_1 (rd t135 x13_1) [.int .i64 (rd t135 x13_1)] (fun k_ => some k_ ≠ (.slice (some ad138) t135.length co10 : Value).ownBlock) (fun _ => False) rfl rfl ?aP (fun _ hk => hk.elim) ?aF ?aO ?aB ?aS ?aL ?_; (case aP => exact rfl); (case aB => exact zc10); (case aF => exact (fun k_ hk => Kd.fresh' (Kd.R_lt zc25) k_ hk)); (case aO => exact zc27); (case aS => exact (below_size zc10)); (case aL => have := LMc16.out; omega); intro v141 w21 ho hb hg hat; rw [← Ny140.out] at ho; have n0_ := Aside0.mk (Kd.R_after (ok := (fun _ => True)) (by (with_reducible repeat (first | apply Kd.R_alloc | apply Kd.R_drewN | apply Kd.R_drew)); exact Kd.R_mono HO_11.out (fun _ hk => ⟨trivial, hk⟩)) hg hat); have n1_ := Aside0.mk (blk_grown (g := gb133) (o := .cells #[.int .i64 a0_0, .int .i64 a0_1, .slice A0_2 l0_2.length c0_2] 31 (0, 0)) zc15 hg (Kd.R_ne HO_7.out BK133.out (by decide))); have n2_ := Aside0.mk (blk_grown (g := gb134) (o := .cells #[.int .i64 a1_0, .int .i64 a1_1] 33 (0, 0)) zc19 hg (Kd.R_ne HO_7.out BK134.out (by decide))); have n3_ := Aside0.mk (hb); have n4_ := Aside0.mk (ho); clear HO_11; clear BK133; clear BK134; clear HB; clear HO_7; have HO_11 := n0_; have BK133 := n1_; have BK134 := n2_; have HB := n3_; have HO142 := n4_; clear n0_ n1_ n2_ n3_ n4_; clear ho hb hg hat))
   go_roundg k1
   case measure => have := HK1.out; omega
   case rel => exact ⟨(y140), (wrap64 (x13_1 + 1)), zc20, H', ⟨by have := HK1.out; omega⟩, ⟨by first | exact HO142.out | ((with_reducible repeat (first | apply Kd.R_alloc | apply Kd.R_drewN | apply Kd.R_drew)); exact HO142.out)⟩, ⟨by (with_reducible repeat (first | apply Kd.R_alloc | apply Kd.R_drewN | apply Kd.R_drew)); exact Kd.R_mono HO_11.out (fun _ hk => hk.2)⟩, ⟨zc15⟩, ⟨zc19⟩, ⟨zc10⟩⟩

/-! ### spec_ForcedLeaps: function 8 -/
mutual
def spec_ForcedLeaps.l0 : Nat → List (List Int) → List Int → Int → Int → Int → Int → List Int → Int → Int → Option ((List (List Int)) × Bool)
 | 0, _, _, _, _, _, _, _, _, _ => none
 | k + 1, x6, x16, x17, x18, x144000, x144001, x144002, x145000, x145001 => if x18 < x17 then (if 0 ≤ x18 then (if x18 < (x16.length : Int) then ((spec_boLeaps.f k x144000 x144001 x144002 x145000 x145001 (rd x16 x18)).bind fun t150 => (spec_ForcedLeaps.l1 k x6 (rd x16 x18) x16 x17 x18 t150 (t150.length : Int) 0 x144000 x144001 x144002 x145000 x145001)) else (none)) else (none)) else (some (x6, true))
def spec_ForcedLeaps.l1 : Nat → List (List Int) → Int → List Int → Int → Int → List Int → Int → Int → Int → Int → List Int → Int → Int → Option ((List (List Int)) × Bool)
 | 0, _, _, _, _, _, _, _, _, _, _, _, _, _ => none
 | k + 1, x6, x8, x16, x17, x18, x25, x26, x27, x144000, x144001, x144002, x145000, x145001 => if x27 < x26 then (if 0 ≤ x27 then (if x27 < (x25.length : Int) then (if x8 < (rd x25 x27) then ((spec_boLeaps.f k x144000 x144001 x144002 x145000 x145001 x8).bind fun t154 => (if (t154.length : Int) = 2 then (if x6.length < 5864062014805 then (spec_ForcedLeaps.l1 k (x6 ++ [(([x8, rd x25 x27] : List Int))]) x8 x16 x17 x18 x25 x26 (wrap64 (x27 + 1)) x144000 x144001 x144002 x145000 x145001) else (none)) else ((spec_boLeaps.f k x144000 x144001 x144002 x145000 x145001 (rd x25 x27)).bind fun t163 => (if (t163.length : Int) = 2 then (if x6.length < 5864062014805 then (spec_ForcedLeaps.l1 k (x6 ++ [(([x8, rd x25 x27] : List Int))]) x8 x16 x17 x18 x25 x26 (wrap64 (x27 + 1)) x144000 x144001 x144002 x145000 x145001) else (none)) else (spec_ForcedLeaps.l1 k x6 x8 x16 x17 x18 x25 x26 (wrap64 (x27 + 1)) x144000 x144001 x144002 x145000 x145001))))) else (spec_ForcedLeaps.l1 k x6 x8 x16 x17 x18 x25 x26 (wrap64 (x27 + 1)) x144000 x144001 x144002 x145000 x145001)) else (none)) else (none)) else (spec_ForcedLeaps.l0 k x6 x16 x17 (wrap64 (x18 + 1)) x144000 x144001 x144002 x145000 x145001)
end
def spec_ForcedLeaps.f (k : Nat) (a0_0 : Int) (a0_1 : Int) (l0_2 : List Int) (a1_0 : Int) (a1_1 : Int) : Option ((List (List Int)) × Bool) := (spec_boTwo.f k a0_0 a0_1 l0_2 a1_0 a1_1).bind fun t145 => (if t145 = true then ((spec_boCells.f k a0_0 a0_1 l0_2).bind fun t146 => (spec_ForcedLeaps.l0 k ([] : List (List Int)) t146 (t146.length : Int) 0 a0_0 a0_1 l0_2 a1_0 a1_1)) else (some (([] : List (List Int)), false)))
set_option maxHeartbeats 8000000 in
set_option maxRecDepth 100000 in
theorem spec_ForcedLeaps.calls (k : Nat) (a0_0 : Int) (a0_1 : Int) (A0_2 : Option Addr) (c0_2 : Nat) (l0_2 : List Int) (a1_0 : Int) (a1_1 : Int) (r1 : List (List Int)) (r2 : Bool) (w : World) (hr0_2 : Kd.C (Kd.int .i64) w A0_2 l0_2.length l0_2) (hc0_2 : l0_2.length ≤ c0_2) (h : spec_ForcedLeaps.f k a0_0 a0_1 l0_2 a1_0 a1_1 = some (r1, r2)) :
  Calls Try.prog 8 #[.agg #[.int .i64 a0_0, .int .i64 a0_1, .slice A0_2 l0_2.length c0_2], .agg #[.int .i64 a1_0, .int .i64 a1_1]] w fun e w' => ∃ v0_ : Value, e = .returned (.tuple #[v0_, .bool r2]) ∧ Kd.S (Kd.slice 3 (Kd.int .i64)) 22 w' w.heap.size (fun _ => True) v0_ r1 ∧ Below w.heap.size w w' := by
 have hu31 := Try.underlying31
 have hu33 := Try.underlying33
 have HR0_2 := Aside0.mk hr0_2
 have HC0_2 := Aside0.mk hc0_2
 clear hr0_2 hc0_2
 have HB := Aside0.mk (Below.refl w.heap.size w)
 have H : ((spec_boTwo.f k a0_0 a0_1 l0_2 a1_0 a1_1).bind fun t145 => (if t145 = true then ((spec_boCells.f k a0_0 a0_1 l0_2).bind fun t146 => (spec_ForcedLeaps.l0 k ([] : List (List Int)) t146 (t146.length : Int) 0 a0_0 a0_1 l0_2 a1_0 a1_1)) else (some (([] : List (List Int)), false)))) = some (r1, r2) := h
 clear h
 replace H := Option.bind_eq_some_iff.mp H
 obtain ⟨t145, A30, H⟩ := H
 replace H : (if t145 = true then ((spec_boCells.f k a0_0 a0_1 l0_2).bind fun t146 => (spec_ForcedLeaps.l0 k ([] : List (List Int)) t146 (t146.length : Int) 0 a0_0 a0_1 l0_2 a1_0 a1_1)) else (some (([] : List (List Int)), false))) = some (r1, r2) := H
 have A3 := Aside0.mk A30
 clear A30
 by_cases c4 : t145 = true
 rotate_left
 ·replace c4 := Bool.eq_false_iff.mpr c4
  subst c4
  have H1 : (some (([] : List (List Int)), false)) = some (r1, r2) := by rw [if_neg (show ¬ (false = true) by decide)] at H; exact H
  clear H
  have H := H1
  clear H1
  simp only [Option.some.injEq, Prod.mk.injEq] at H
  obtain ⟨rfl, rfl⟩ := H
  go_enter Try.func8, Try.ntmps8
  go_wp2_with (first | ((with_reducible refine gate_dst (N := 2) rfl ?_); (try (refine gate_guard (by rfl) ?_; dsimp only)); refine box_event ?hg (N := 2) ?hd (cs := #[.int .i64 a0_0, .int .i64 a0_1, .slice A0_2 l0_2.length c0_2]) (t := 31) ?hr ?_; (case hd => rfl); (case hg => rfl); (case hr => first | (go_simp; done) | (go_simp; rfl)); intro gb143 hg w65 hbox hb; have n0_ := Aside0.mk (below_step zc2 hb); have n1_ := Aside0.mk (hbox); have n2_ := Aside0.mk ((zc35 : w.heap.size ≤ gb143)); have n3_ := Aside0.mk ((zc35 : w.heap.size ≤ gb143)); clear HB; have HB := n0_; have BK143 := n1_; have GW143 := n2_; have GE143 := n3_; clear n0_ n1_ n2_ n3_; clear hb hbox hg) | ((with_reducible refine gate_dst (N := 3) rfl ?_); (try (refine gate_guard (by rfl) ?_; dsimp only)); refine box_event ?hg (N := 3) ?hd (cs := #[.int .i64 a1_0, .int .i64 a1_1]) (t := 33) ?hr ?_; (case hd => rfl); (case hg => rfl); (case hr => first | (go_simp; done) | (go_simp; rfl)); intro gb144 hg w66 hbox hb; have n0_ := Aside0.mk (blk_below (g := gb143) (o := .cells #[.int .i64 a0_0, .int .i64 a0_1, .slice A0_2 l0_2.length c0_2] 31 (0, 0)) zc5 hb); have n1_ := Aside0.mk (below_step zc16 hb); have n2_ := Aside0.mk (hbox); have n3_ := Aside0.mk ((by rw [hg]; exact (below_size zc16) : w.heap.size ≤ gb144)); have n4_ := Aside0.mk ((by rw [hg]; exact (below_size zc16) : w.heap.size ≤ gb144)); have n5_ := Aside0.mk ((zc37 : gb143 ≠ gb144)); have n6_ := Aside0.mk ((zc38 : gb144 ≠ gb143)); clear BK143; clear HB; have BK143 := n0_; have HB := n1_; have BK144 := n2_; have GW144 := n3_; have GE144 := n4_; have NB143_144 := n5_; have NB144_143 := n6_; clear n0_ n1_ n2_ n3_ n4_ n5_ n6_; clear hb hbox hg; have hnb67 := NB143_144.out; have hnc67 := NB144_143.out; have hcz68_0 : w66.cell? ⟨gb143, 0, none⟩ = some (.int .i64 a0_0) := (blk_cell BK143.out 0).trans rfl; have hcz68_1 : w66.cell? ⟨gb143, 1, none⟩ = some (.int .i64 a0_1) := (blk_cell BK143.out 1).trans rfl; have hcz68_2 : w66.cell? ⟨gb143, 2, none⟩ = some (.slice A0_2 l0_2.length c0_2) := (blk_cell BK143.out 2).trans rfl; have hfz68_0 := blk_frozen BK143.out 0; have hfz68_1 := blk_frozen BK143.out 1; have hfz68_2 := blk_frozen BK143.out 2; have hcz69_0 : w66.cell? ⟨gb144, 0, none⟩ = some (.int .i64 a1_0) := (blk_cell BK144.out 0).trans rfl; have hcz69_1 : w66.cell? ⟨gb144, 1, none⟩ = some (.int .i64 a1_1) := (blk_cell BK144.out 1).trans rfl; have hfz69_0 := blk_frozen BK144.out 0; have hfz69_1 := blk_frozen BK144.out 1) | ((with_reducible refine gate_callee (f := 28) rfl ?_); refine goesL_ (some 13) rfl rfl Try.func28 (by kernel_rfl) rfl #[.agg #[.int .i64 a0_0, .int .i64 a0_1, .slice A0_2 l0_2.length c0_2], .agg #[.int .i64 a1_0, .int .i64 a1_1]] rfl zc12 ?_; (with_reducible refine (spec_boTwo.calls k a0_0 a0_1 _ _ l0_2 a1_0 a1_1 false _ ?side1 ?side2 A3.out).mono ?_); (case side1 => exact zc7); (case side2 => exact HC0_2.out); rintro e w70 ⟨rfl, hb⟩; refine ⟨_, rfl, ?_⟩; have n0_ := Aside0.mk (blk_below (g := gb143) (o := .cells #[.int .i64 a0_0, .int .i64 a0_1, .slice A0_2 l0_2.length c0_2] 31 (0, 0)) zc5 hb); have n1_ := Aside0.mk (blk_below (g := gb144) (o := .cells #[.int .i64 a1_0, .int .i64 a1_1] 33 (0, 0)) zc6 hb); have n2_ := Aside0.mk (below_step zc1 hb); clear BK143; clear BK144; clear HB; have BK143 := n0_; have BK144 := n1_; have HB := n2_; clear n0_ n1_ n2_; (try clear hb); (try clear hb2); (try clear hk); (try clear hi); (try clear hna_); (try clear hnb_)))
  go_ret2
  exact ⟨_, zc18, zc29, zc1⟩
 subst c4
 have H1 : ((spec_boCells.f k a0_0 a0_1 l0_2).bind fun t146 => (spec_ForcedLeaps.l0 k ([] : List (List Int)) t146 (t146.length : Int) 0 a0_0 a0_1 l0_2 a1_0 a1_1)) = some (r1, r2) := by rw [if_pos rfl] at H; exact H
 clear H
 have H := H1
 clear H1
 replace H := Option.bind_eq_some_iff.mp H
 obtain ⟨t146, A50, H⟩ := H
 replace H : (spec_ForcedLeaps.l0 k ([] : List (List Int)) t146 (t146.length : Int) 0 a0_0 a0_1 l0_2 a1_0 a1_1) = some (r1, r2) := H
 have A5 := Aside0.mk A50
 clear A50
 have H' := Aside0.mk H
 clear H
 go_enter Try.func8, Try.ntmps8
 go_wp2_with (first | ((with_reducible refine gate_dst (N := 2) rfl ?_); (try (refine gate_guard (by rfl) ?_; dsimp only)); refine box_event ?hg (N := 2) ?hd (cs := #[.int .i64 a0_0, .int .i64 a0_1, .slice A0_2 l0_2.length c0_2]) (t := 31) ?hr ?_; (case hd => rfl); (case hg => rfl); (case hr => first | (go_simp; done) | (go_simp; rfl)); intro gb143 hg w6 hbox hb; have n0_ := Aside0.mk (below_step zc2 hb); have n1_ := Aside0.mk (hbox); have n2_ := Aside0.mk ((zc35 : w.heap.size ≤ gb143)); have n3_ := Aside0.mk ((zc35 : w.heap.size ≤ gb143)); clear HB; have HB := n0_; have BK143 := n1_; have GW143 := n2_; have GE143 := n3_; clear n0_ n1_ n2_ n3_; clear hb hbox hg) | ((with_reducible refine gate_dst (N := 3) rfl ?_); (try (refine gate_guard (by rfl) ?_; dsimp only)); refine box_event ?hg (N := 3) ?hd (cs := #[.int .i64 a1_0, .int .i64 a1_1]) (t := 33) ?hr ?_; (case hd => rfl); (case hg => rfl); (case hr => first | (go_simp; done) | (go_simp; rfl)); intro gb144 hg w7 hbox hb; have n0_ := Aside0.mk (blk_below (g := gb143) (o := .cells #[.int .i64 a0_0, .int .i64 a0_1, .slice A0_2 l0_2.length c0_2] 31 (0, 0)) zc5 hb); have n1_ := Aside0.mk (below_step zc16 hb); have n2_ := Aside0.mk (hbox); have n3_ := Aside0.mk ((by rw [hg]; exact (below_size zc16) : w.heap.size ≤ gb144)); have n4_ := Aside0.mk ((by rw [hg]; exact (below_size zc16) : w.heap.size ≤ gb144)); have n5_ := Aside0.mk ((zc37 : gb143 ≠ gb144)); have n6_ := Aside0.mk ((zc38 : gb144 ≠ gb143)); clear BK143; clear HB; have BK143 := n0_; have HB := n1_; have BK144 := n2_; have GW144 := n3_; have GE144 := n4_; have NB143_144 := n5_; have NB144_143 := n6_; clear n0_ n1_ n2_ n3_ n4_ n5_ n6_; clear hb hbox hg; have hnb8 := NB143_144.out; have hnc8 := NB144_143.out; have hcz9_0 : w7.cell? ⟨gb143, 0, none⟩ = some (.int .i64 a0_0) := (blk_cell BK143.out 0).trans rfl; have hcz9_1 : w7.cell? ⟨gb143, 1, none⟩ = some (.int .i64 a0_1) := (blk_cell BK143.out 1).trans rfl; have hcz9_2 : w7.cell? ⟨gb143, 2, none⟩ = some (.slice A0_2 l0_2.length c0_2) := (blk_cell BK143.out 2).trans rfl; have hfz9_0 := blk_frozen BK143.out 0; have hfz9_1 := blk_frozen BK143.out 1; have hfz9_2 := blk_frozen BK143.out 2; have hcz10_0 : w7.cell? ⟨gb144, 0, none⟩ = some (.int .i64 a1_0) := (blk_cell BK144.out 0).trans rfl; have hcz10_1 : w7.cell? ⟨gb144, 1, none⟩ = some (.int .i64 a1_1) := (blk_cell BK144.out 1).trans rfl; have hfz10_0 := blk_frozen BK144.out 0; have hfz10_1 := blk_frozen BK144.out 1) | ((with_reducible refine gate_callee (f := 28) rfl ?_); refine goesL_ (some 13) rfl rfl Try.func28 (by kernel_rfl) rfl #[.agg #[.int .i64 a0_0, .int .i64 a0_1, .slice A0_2 l0_2.length c0_2], .agg #[.int .i64 a1_0, .int .i64 a1_1]] rfl zc12 ?_; (with_reducible refine (spec_boTwo.calls k a0_0 a0_1 _ _ l0_2 a1_0 a1_1 true _ ?side1 ?side2 A3.out).mono ?_); (case side1 => exact zc7); (case side2 => exact HC0_2.out); rintro e w11 ⟨rfl, hb⟩; refine ⟨_, rfl, ?_⟩; have n0_ := Aside0.mk (blk_below (g := gb143) (o := .cells #[.int .i64 a0_0, .int .i64 a0_1, .slice A0_2 l0_2.length c0_2] 31 (0, 0)) zc5 hb); have n1_ := Aside0.mk (blk_below (g := gb144) (o := .cells #[.int .i64 a1_0, .int .i64 a1_1] 33 (0, 0)) zc6 hb); have n2_ := Aside0.mk (below_step zc1 hb); clear BK143; clear BK144; clear HB; have BK143 := n0_; have BK144 := n1_; have HB := n2_; clear n0_ n1_ n2_; (try clear hb); (try clear hb2); (try clear hk); (try clear hi); (try clear hna_); (try clear hnb_); have hcz12_0 : w11.cell? ⟨gb143, 0, none⟩ = some (.int .i64 a0_0) := (blk_cell BK143.out 0).trans rfl; have hcz12_1 : w11.cell? ⟨gb143, 1, none⟩ = some (.int .i64 a0_1) := (blk_cell BK143.out 1).trans rfl; have hcz12_2 : w11.cell? ⟨gb143, 2, none⟩ = some (.slice A0_2 l0_2.length c0_2) := (blk_cell BK143.out 2).trans rfl; have hfz12_0 := blk_frozen BK143.out 0; have hfz12_1 := blk_frozen BK143.out 1; have hfz12_2 := blk_frozen BK143.out 2) | ((with_reducible refine gate_callee (f := 29) rfl ?_); refine goesL_ (some 16) rfl rfl Try.func29 (by kernel_rfl) rfl #[.agg #[.int .i64 a0_0, .int .i64 a0_1, .slice A0_2 l0_2.length c0_2]] rfl zc12 ?_; (with_reducible refine (spec_boCells.calls k a0_0 a0_1 _ _ l0_2 t146 _ ?side1 ?side2 A5.out).mono ?_); (case side1 => exact zc7); (case side2 => exact HC0_2.out); rintro e w13 ⟨v147, rfl, ho0, hb⟩; refine ⟨_, rfl, ?_⟩; have n0_ := Aside0.mk (Kd.R_lower ho0 (below_size zc1)); have n1_ := Aside0.mk (blk_below (g := gb143) (o := .cells #[.int .i64 a0_0, .int .i64 a0_1, .slice A0_2 l0_2.length c0_2] 31 (0, 0)) zc5 hb); have n2_ := Aside0.mk (blk_below (g := gb144) (o := .cells #[.int .i64 a1_0, .int .i64 a1_1] 33 (0, 0)) zc6 hb); have n3_ := Aside0.mk (below_step zc1 hb); clear BK143; clear BK144; clear HB; have HO148 := n0_; have BK143 := n1_; have BK144 := n2_; have HB := n3_; clear n0_ n1_ n2_ n3_; (try clear hb); (try clear hb2); (try clear hk); (try clear hi); (try clear ho0); (try clear hna_); (try clear hnb_); obtain ⟨Ao14, co14, eo14⟩ := Kd.R_slice HO148.out; subst eo14))
 go_loopg [6, 18] k (fun kq v6 v18 w' => ∃ (x6_1 : List (List Int)) (x18_1 : Int), v18 = .int .i64 x18_1 ∧ Aside0 (spec_ForcedLeaps.l0 kq x6_1 t146 (t146.length : Int) x18_1 a0_0 a0_1 l0_2 a1_0 a1_1 = some (r1, r2)) ∧ Aside0 (kq ≤ k) ∧ Aside0 (Kd.S (Kd.slice 3 (Kd.int .i64)) 22 w' w.heap.size (fun k_ => some k_ ≠ ((.slice Ao14 t146.length co14) : Value).ownBlock) v6 x6_1) ∧ Aside0 (Kd.R (Kd.int .i64) 3 w' w.heap.size (fun _ => True) (.slice Ao14 t146.length co14) t146) ∧ Aside0 (w'.heap[gb143]? = some (.cells #[.int .i64 a0_0, .int .i64 a0_1, (.slice A0_2 l0_2.length c0_2)] 31 (0, 0))) ∧ Aside0 (w'.heap[gb144]? = some (.cells #[.int .i64 a1_0, .int .i64 a1_1] 33 (0, 0))) ∧ Aside0 (Below w.heap.size w w'))
 case atStart => exact ⟨(([] : List (List Int))), (0), zc20, H', ⟨Nat.le_refl _⟩, ⟨zc29⟩, ⟨by first | exact HO148.out | ((with_reducible repeat (first | apply Kd.R_alloc | apply Kd.R_drewN | apply Kd.R_drew)); exact HO148.out)⟩, ⟨zc5⟩, ⟨zc6⟩, ⟨zc1⟩⟩
 case round =>
  clear H'
  try clear c2; try clear p2; try clear c4; try clear c8; try clear hcz10_0; try clear hcz10_1; try clear hcz12_0; try clear hcz12_1; try clear hcz12_2; try clear hcz9_0; try clear hcz9_1; try clear hcz9_2; try clear hfz10_0; try clear hfz10_1; try clear hfz12_0; try clear hfz12_1; try clear hfz12_2; try clear hfz9_0; try clear hfz9_1; try clear hfz9_2
  obtain ⟨x6_1, x18_1, rfl, HA, HK1, HO_6, HO_16, BK143, BK144, HB⟩ := hrel
  cases gk with
  | zero => exact absurd HA.out (by simp [spec_ForcedLeaps.l0])
  | succ k1 =>
   have H := HA.out
   clear HA
   simp only [spec_ForcedLeaps.l0] at H
   by_cases c15 : x18_1 < (t146.length : Int)
   rotate_left
   ·rw [if_neg c15] at H
    have c15b0 : decide (x18_1 < (t146.length : Int)) = false := decide_eq_false c15
    clear c15
    simp only [Option.some.injEq, Prod.mk.injEq] at H
    obtain ⟨rfl, rfl⟩ := H
    go_wp2
    go_ret2
    exact ⟨_, zc18, by (with_reducible repeat (first | apply Kd.S_alloc | apply Kd.S_drewN | apply Kd.S_drew)); exact Kd.S_mono HO_6.out (fun _ hk => trivial), zc1⟩
   rw [if_pos c15] at H
   have c15b0 : decide (x18_1 < (t146.length : Int)) = true := decide_eq_true c15
   clear c15
   by_cases c16 : 0 ≤ x18_1
   rotate_left
   ·rw [if_neg c16] at H
    exact absurd H (by simp)
   rw [if_pos c16] at H
   have c16b0 : decide (0 ≤ x18_1) = true := decide_eq_true c16
   clear c16
   by_cases c17 : x18_1 < (t146.length : Int)
   rotate_left
   ·rw [if_neg c17] at H
    exact absurd H (by simp)
   rw [if_pos c17] at H
   have c17b0 : decide (x18_1 < (t146.length : Int)) = true := decide_eq_true c17
   clear c17
   replace H := Option.bind_eq_some_iff.mp H
   obtain ⟨t150, A180, H⟩ := H
   replace H : (spec_ForcedLeaps.l1 k1 x6_1 (rd t146 x18_1) t146 (t146.length : Int) x18_1 t150 (t150.length : Int) 0 a0_0 a0_1 l0_2 a1_0 a1_1) = some (r1, r2) := H
   have A18 := Aside0.mk A180
   clear A180
   have H' := Aside0.mk H
   clear H
   have p149 : 0 ≤ (x18_1 : Int) := of_decide_eq_true zc21
   have q149 : x18_1 < (t146.length : Int) := of_decide_eq_true zc21
   obtain ⟨ad149, e149, hx149_0⟩ := Kd.at_int (Kd.R_reads' HO_16.out).2.2 x18_1 p149 q149
   cases e149
   replace p149 := eq_true p149
   replace q149 := eq_true q149
   have hnb19 := NB143_144.out
   have hnc19 := NB144_143.out
   have hcz20_0 : wr.cell? ⟨gb143, 0, none⟩ = some (.int .i64 a0_0) := (blk_cell BK143.out 0).trans rfl
   have hcz20_1 : wr.cell? ⟨gb143, 1, none⟩ = some (.int .i64 a0_1) := (blk_cell BK143.out 1).trans rfl
   have hcz20_2 : wr.cell? ⟨gb143, 2, none⟩ = some (.slice A0_2 l0_2.length c0_2) := (blk_cell BK143.out 2).trans rfl
   have hfz20_0 := blk_frozen BK143.out 0
   have hfz20_1 := blk_frozen BK143.out 1
   have hfz20_2 := blk_frozen BK143.out 2
   have hcz21_0 : wr.cell? ⟨gb144, 0, none⟩ = some (.int .i64 a1_0) := (blk_cell BK144.out 0).trans rfl
   have hcz21_1 : wr.cell? ⟨gb144, 1, none⟩ = some (.int .i64 a1_1) := (blk_cell BK144.out 1).trans rfl
   have hfz21_0 := blk_frozen BK144.out 0
   have hfz21_1 := blk_frozen BK144.out 1
   go_wp2_with (first | ((with_reducible refine gate_callee (f := 30) rfl ?_); refine goesL_ (some 25) rfl rfl Try.func30 (by kernel_rfl) rfl #[.agg #[.int .i64 a0_0, .int .i64 a0_1, .slice A0_2 l0_2.length c0_2], .agg #[.int .i64 a1_0, .int .i64 a1_1], .int .i64 (rd t146 x18_1)] rfl zc12 ?_; (with_reducible refine (spec_boLeaps.calls k1 a0_0 a0_1 _ _ l0_2 a1_0 a1_1 (rd t146 x18_1) t150 _ ?side1 ?side2 A18.out).mono ?_); (case side1 => exact zc7); (case side2 => exact HC0_2.out); rintro e w22 ⟨v151, rfl, ho0, hb⟩; refine ⟨_, rfl, ?_⟩; have n0_ := Aside0.mk (Kd.S_elder' zc11 (Kd.R_base ho0) hb); have n1_ := Aside0.mk (Kd.R_elder' zc8 (Kd.R_base ho0) hb); have n2_ := Aside0.mk (Kd.R_lower (Kd.R_new' ho0 (Kd.R_lt zc8)) (below_size zc1)); have n3_ := Aside0.mk (blk_below (g := gb143) (o := .cells #[.int .i64 a0_0, .int .i64 a0_1, .slice A0_2 l0_2.length c0_2] 31 (0, 0)) zc5 hb); have n4_ := Aside0.mk (blk_below (g := gb144) (o := .cells #[.int .i64 a1_0, .int .i64 a1_1] 33 (0, 0)) zc6 hb); have n5_ := Aside0.mk (below_step zc1 hb); clear HO_6; clear HO_16; clear BK143; clear BK144; clear HB; have HO_6 := n0_; have HO_16 := n1_; have HO152 := n2_; have BK143 := n3_; have BK144 := n4_; have HB := n5_; clear n0_ n1_ n2_ n3_ n4_ n5_; (try clear hb); (try clear hb2); (try clear hk); (try clear hi); (try clear ho0); (try clear hna_); (try clear hnb_); obtain ⟨Ao23, co23, eo23⟩ := Kd.R_slice HO152.out; subst eo23))
   go_loopg [6, 27] k1 (fun kq v6 v27 w' => ∃ (x6_2 : List (List Int)) (x27_2 : Int), v27 = .int .i64 x27_2 ∧ Aside0 (spec_ForcedLeaps.l1 kq x6_2 (rd t146 x18_1) t146 (t146.length : Int) x18_1 t150 (t150.length : Int) x27_2 a0_0 a0_1 l0_2 a1_0 a1_1 = some (r1, r2)) ∧ Aside0 (kq ≤ k1) ∧ Aside0 (Kd.S (Kd.slice 3 (Kd.int .i64)) 22 w' w.heap.size (fun k_ => some k_ ≠ ((.slice (some ad149) t146.length co14) : Value).ownBlock ∧ some k_ ≠ ((.slice Ao23 t150.length co23) : Value).ownBlock) v6 x6_2) ∧ Aside0 (Kd.R (Kd.int .i64) 3 w' w.heap.size (fun k_ => some k_ ≠ ((.slice Ao23 t150.length co23) : Value).ownBlock) (.slice (some ad149) t146.length co14) t146) ∧ Aside0 (Kd.R (Kd.int .i64) 3 w' w.heap.size (fun k_ => some k_ ≠ ((.slice (some ad149) t146.length co14) : Value).ownBlock) (.slice Ao23 t150.length co23) t150) ∧ Aside0 (w'.heap[gb143]? = some (.cells #[.int .i64 a0_0, .int .i64 a0_1, (.slice A0_2 l0_2.length c0_2)] 31 (0, 0))) ∧ Aside0 (w'.heap[gb144]? = some (.cells #[.int .i64 a1_0, .int .i64 a1_1] 33 (0, 0))) ∧ Aside0 (Below w.heap.size w w'))
   case atStart => exact ⟨(x6_1), (0), zc20, H', ⟨Nat.le_refl _⟩, ⟨zc11⟩, ⟨by (with_reducible repeat (first | apply Kd.R_alloc | apply Kd.R_drewN | apply Kd.R_drew)); exact Kd.R_mono HO_16.out (fun _ hk => hk.2)⟩, ⟨by (with_reducible repeat (first | apply Kd.R_alloc | apply Kd.R_drewN | apply Kd.R_drew)); exact Kd.R_mono HO152.out (fun _ hk => hk.2)⟩, ⟨zc5⟩, ⟨zc6⟩, ⟨zc1⟩⟩
   case round =>
    clear H'
    try clear c1; try clear p1; try clear q1; try clear hx1; try clear c2; try clear p2; try clear c3; try clear c4; try clear c8; try clear p14; try clear q14; try clear hx14; try clear c15; try clear c15b0; try clear c16; try clear c16b0; try clear c17; try clear c17b0; try clear c19; try clear hcz10_0; try clear hcz10_1; try clear hcz12_0; try clear hcz12_1; try clear hcz12_2; try clear hcz20_0; try clear hcz20_1; try clear hcz20_2; try clear hcz21_0; try clear hcz21_1; try clear hcz9_0; try clear hcz9_1; try clear hcz9_2; try clear hfz10_0; try clear hfz10_1; try clear hfz12_0; try clear hfz12_1
    try clear hfz12_2; try clear hfz20_0; try clear hfz20_1; try clear hfz20_2; try clear hfz21_0; try clear hfz21_1; try clear hfz9_0; try clear hfz9_1; try clear hfz9_2; try clear hx149_0; try clear p149; try clear p2; try clear q149
    obtain ⟨x6_2, x27_2, rfl, HA, HK2, HO_6, HO_16, HO_25, BK143, BK144, HB⟩ := hrel
    cases gk with
    | zero => exact absurd HA.out (by simp [spec_ForcedLeaps.l1])
    | succ k2 =>
     have H := HA.out
     clear HA
     simp only [spec_ForcedLeaps.l1] at H
     by_cases c24 : x27_2 < (t150.length : Int)
     rotate_left
     ·rw [if_neg c24] at H
      have c24b0 : decide (x27_2 < (t150.length : Int)) = false := decide_eq_false c24
      clear c24
      have H' := Aside0.mk H
      clear H
      go_wp2
      go_roundg k2
      case measure => have := HK1.out; have := HK2.out; omega
      case rel => exact ⟨(x6_2), (wrap64 (x18_1 + 1)), zc20, H', ⟨zc28⟩, ⟨by (with_reducible repeat (first | apply Kd.S_alloc | apply Kd.S_drewN | apply Kd.S_drew)); exact Kd.S_mono HO_6.out (fun _ hk => hk.1)⟩, ⟨by (with_reducible repeat (first | apply Kd.R_alloc | apply Kd.R_drewN | apply Kd.R_drew)); exact Kd.R_mono HO_16.out (fun _ hk => trivial)⟩, ⟨zc5⟩, ⟨zc6⟩, ⟨zc1⟩⟩
     rw [if_pos c24] at H
     have c24b0 : decide (x27_2 < (t150.length : Int)) = true := decide_eq_true c24
     clear c24
     by_cases c25 : 0 ≤ x27_2
     rotate_left
     ·rw [if_neg c25] at H
      exact absurd H (by simp)
     rw [if_pos c25] at H
     have c25b0 : decide (0 ≤ x27_2) = true := decide_eq_true c25
     clear c25
     by_cases c26 : x27_2 < (t150.length : Int)
     rotate_left
     ·rw [if_neg c26] at H
      exact absurd H (by simp)
     rw [if_pos c26] at H
     have c26b0 : decide (x27_2 < (t150.length : Int)) = true := decide_eq_true c26
     clear c26
     by_cases c27 : (rd t146 x18_1) < (rd t150 x27_2)
     rotate_left
     ·rw [if_neg c27] at H
      have c27b0 : decide ((rd t146 x18_1) < (rd t150 x27_2)) = false := decide_eq_false c27
      clear c27
      have H' := Aside0.mk H
      clear H
      have p153 : 0 ≤ (x27_2 : Int) := of_decide_eq_true zc21
      have q153 : x27_2 < (t150.length : Int) := of_decide_eq_true zc21
      obtain ⟨ad153, e153, hx153_0⟩ := Kd.at_int (Kd.R_reads' HO_25.out).2.2 x27_2 p153 q153
      cases e153
      replace p153 := eq_true p153
      replace q153 := eq_true q153
      go_wp2
      go_roundg k2
      case measure => have := HK1.out; have := HK2.out; omega
      case rel => exact ⟨(x6_2), (wrap64 (x27_2 + 1)), zc20, H', ⟨zc28⟩, ⟨zc11⟩, ⟨zc8⟩, ⟨zc9⟩, ⟨zc5⟩, ⟨zc6⟩, ⟨zc1⟩⟩
     rw [if_pos c27] at H
     have c27b0 : decide ((rd t146 x18_1) < (rd t150 x27_2)) = true := decide_eq_true c27
     clear c27
     replace H := Option.bind_eq_some_iff.mp H
     obtain ⟨t154, A280, H⟩ := H
     replace H : (if (t154.length : Int) = 2 then (if x6_2.length < 5864062014805 then (spec_ForcedLeaps.l1 k2 (x6_2 ++ [(([(rd t146 x18_1), rd t150 x27_2] : List Int))]) (rd t146 x18_1) t146 (t146.length : Int) x18_1 t150 (t150.length : Int) (wrap64 (x27_2 + 1)) a0_0 a0_1 l0_2 a1_0 a1_1) else (none)) else ((spec_boLeaps.f k2 a0_0 a0_1 l0_2 a1_0 a1_1 (rd t150 x27_2)).bind fun t163 => (if (t163.length : Int) = 2 then (if x6_2.length < 5864062014805 then (spec_ForcedLeaps.l1 k2 (x6_2 ++ [(([(rd t146 x18_1), rd t150 x27_2] : List Int))]) (rd t146 x18_1) t146 (t146.length : Int) x18_1 t150 (t150.length : Int) (wrap64 (x27_2 + 1)) a0_0 a0_1 l0_2 a1_0 a1_1) else (none)) else (spec_ForcedLeaps.l1 k2 x6_2 (rd t146 x18_1) t146 (t146.length : Int) x18_1 t150 (t150.length : Int) (wrap64 (x27_2 + 1)) a0_0 a0_1 l0_2 a1_0 a1_1)))) = some (r1, r2) := H
     have A28 := Aside0.mk A280
     clear A280
     by_cases c29 : (t154.length : Int) = 2
     ·rw [if_pos c29] at H
      have c29b0 : ((t154.length : Int) == 2) = true := beq_iff_eq.mpr c29
      have c29b1 : ((t154.length : Int) != 2) = false := bne_eq_false_iff_eq.mpr c29
      clear c29
      obtain ⟨y157, hy157⟩ : ∃ y_ : List Int, y_ = (([(rd t146 x18_1), rd t150 x27_2] : List Int)) := ⟨_, rfl⟩
      replace H : (if x6_2.length < 5864062014805 then (spec_ForcedLeaps.l1 k2 (x6_2 ++ [y157]) (rd t146 x18_1) t146 (t146.length : Int) x18_1 t150 (t150.length : Int) (wrap64 (x27_2 + 1)) a0_0 a0_1 l0_2 a1_0 a1_1) else (none)) = some (r1, r2) := by first | (rw [hy157]; with_reducible exact H) | (have H2_ := (Option.bind_some _ _).symm.trans H; rw [hy157]; with_reducible exact H2_) | (have H2_ := (Option.bind_some _ _).symm.trans H; with_reducible exact H2_) | with_reducible exact H | (rw [hy157]; exact H) | exact H
      have Ny157 := Aside0.mk hy157
      clear hy157
      by_cases c30 : x6_2.length < 5864062014805
      rotate_left
      ·rw [if_neg c30] at H
       exact absurd H (by simp)
      rw [if_pos c30] at H
      have LMc30 := Aside0.mk c30
      clear c30
      obtain ⟨y160, hy160⟩ : ∃ y_ : List (List Int), y_ = (x6_2 ++ [y157]) := ⟨_, rfl⟩
      replace H : (spec_ForcedLeaps.l1 k2 y160 (rd t146 x18_1) t146 (t146.length : Int) x18_1 t150 (t150.length : Int) (wrap64 (x27_2 + 1)) a0_0 a0_1 l0_2 a1_0 a1_1) = some (r1, r2) := by first | (rw [hy160]; with_reducible exact H) | (have H2_ := (Option.bind_some _ _).symm.trans H; rw [hy160]; with_reducible exact H2_) | (have H2_ := (Option.bind_some _ _).symm.trans H; with_reducible exact H2_) | with_reducible exact H | (rw [hy160]; exact H) | exact H
      have Ny160 := Aside0.mk hy160
      clear hy160
      have H' := Aside0.mk H
      clear H
      have p153 : 0 ≤ (x27_2 : Int) := of_decide_eq_true zc21
      have q153 : x27_2 < (t150.length : Int) := of_decide_eq_true zc21
      obtain ⟨ad153, e153, hx153_0⟩ := Kd.at_int (Kd.R_reads' HO_25.out).2.2 x27_2 p153 q153
      cases e153
      replace p153 := eq_true p153
      replace q153 := eq_true q153
      have hnb31 := NB143_144.out
      have hnc31 := NB144_143.out
      have hcz32_0 : wr.cell? ⟨gb143, 0, none⟩ = some (.int .i64 a0_0) := (blk_cell BK143.out 0).trans rfl
      have hcz32_1 : wr.cell? ⟨gb143, 1, none⟩ = some (.int .i64 a0_1) := (blk_cell BK143.out 1).trans rfl
      have hcz32_2 : wr.cell? ⟨gb143, 2, none⟩ = some (.slice A0_2 l0_2.length c0_2) := (blk_cell BK143.out 2).trans rfl
      have hfz32_0 := blk_frozen BK143.out 0
      have hfz32_1 := blk_frozen BK143.out 1
      have hfz32_2 := blk_frozen BK143.out 2
      have hcz33_0 : wr.cell? ⟨gb144, 0, none⟩ = some (.int .i64 a1_0) := (blk_cell BK144.out 0).trans rfl
      have hcz33_1 : wr.cell? ⟨gb144, 1, none⟩ = some (.int .i64 a1_1) := (blk_cell BK144.out 1).trans rfl
      have hfz33_0 := blk_frozen BK144.out 0
      have hfz33_1 := blk_frozen BK144.out 1
      go_wp2_with (first | (go_at_call 30; (with_reducible refine (spec_boLeaps.calls k2 a0_0 a0_1 _ _ l0_2 a1_0 a1_1 (rd t146 x18_1) t154 _ ?side1 ?side2 A28.out).mono ?_); (case side1 => exact zc7); (case side2 => exact HC0_2.out); rintro e w34 ⟨v155, rfl, ho0, hb⟩; have n0_ := Aside0.mk (Kd.S_elder' zc11 (Kd.R_base ho0) hb); have n1_ := Aside0.mk (Kd.R_elder' zc8 (Kd.R_base ho0) hb); have n2_ := Aside0.mk (Kd.R_elder' zc9 (Kd.R_base ho0) hb); have n3_ := Aside0.mk (Kd.R_lower (Kd.R_new' (Kd.R_new' ho0 (Kd.R_lt zc8)) (Kd.R_lt zc9)) (below_size zc1)); have n4_ := Aside0.mk (blk_below (g := gb143) (o := .cells #[.int .i64 a0_0, .int .i64 a0_1, .slice A0_2 l0_2.length c0_2] 31 (0, 0)) zc5 hb); have n5_ := Aside0.mk (blk_below (g := gb144) (o := .cells #[.int .i64 a1_0, .int .i64 a1_1] 33 (0, 0)) zc6 hb); have n6_ := Aside0.mk (below_step zc1 hb); clear HO_6; clear HO_16; clear HO_25; clear BK143; clear BK144; clear HB; have HO_6 := n0_; have HO_16 := n1_; have HO_25 := n2_; have HO156 := n3_; have BK143 := n4_; have BK144 := n5_; have HB := n6_; clear n0_ n1_ n2_ n3_ n4_ n5_ n6_; (try clear hb); (try clear hb2); (try clear hk); (try clear hi); (try clear ho0); (try clear hna_); (try clear hnb_); obtain ⟨Ao35, co35, eo35⟩ := Kd.R_slice HO156.out; subst eo35) | ((with_reducible refine gate_dst (N := 53) rfl ?_); (try (refine gate_guard (by rfl) ?_; dsimp only)); refine Kd.R_lit (Kd.int .i64) _ 3 ?hg (N := 53) ?hd (xs := ([(rd t146 x18_1), rd t150 x27_2] : List Int)) (inner := [.int .i64 (rd t146 x18_1), .int .i64 (rd t150 x27_2)]) (ok := fun _ => True) (okp := fun _ => True) ?hr ?hp (fun _ hk => hk) trivial (Below.refl _ _) (Nat.le_refl _) (by simp) ?_; (case hd => rfl); (case hg => rfl); (case hr => first | (go_simp; done) | (go_simp; rfl)); (case hp => exact (Reps.one (show Kd.M (Kd.int .i64) _ _ _ (rd t146 x18_1) [.int .i64 (rd t146 x18_1)] from rfl) (Reps.one (show Kd.M (Kd.int .i64) _ _ _ (rd t150 x27_2) [.int .i64 (rd t150 x27_2)] from rfl) (Reps.none _ _)))); intro v158 w36 ho37 hb hg_ hnew_; clear hg_ hnew_; (first | rw [← Ny157.out] at ho37 | (simp only [Int.reduceToNat] at ho37; rw [← Ny157.out] at ho37)); have n0_ := Aside0.mk (Kd.S_elder' zc11 (Kd.R_base ho37) hb); have n1_ := Aside0.mk (Kd.R_elder' zc8 (Kd.R_base ho37) hb); have n2_ := Aside0.mk (Kd.R_elder' zc9 (Kd.R_base ho37) hb); have n3_ := Aside0.mk (Kd.R_elder' zc14 (Kd.R_base ho37) hb); have n4_ := Aside0.mk (Kd.R_lower (Kd.R_new' (Kd.R_new' (Kd.R_new' ho37 (Kd.R_lt zc8)) (Kd.R_lt zc9)) (Kd.R_lt zc14)) (below_size zc1)); have n5_ := Aside0.mk (blk_below (g := gb143) (o := .cells #[.int .i64 a0_0, .int .i64 a0_1, .slice A0_2 l0_2.length c0_2] 31 (0, 0)) zc5 hb); have n6_ := Aside0.mk (blk_below (g := gb144) (o := .cells #[.int .i64 a1_0, .int .i64 a1_1] 33 (0, 0)) zc6 hb); have n7_ := Aside0.mk (below_step zc1 hb); clear HO_6; clear HO_16; clear HO_25; clear HO156; clear BK143; clear BK144; clear HB; have HO_6 := n0_; have HO_16 := n1_; have HO_25 := n2_; have HO156 := n3_; have HO159 := n4_; have BK143 := n5_; have BK144 := n6_; have HB := n7_; clear n0_ n1_ n2_ n3_ n4_ n5_ n6_ n7_; clear hb ho37; obtain ⟨Ao39, co39, eo39⟩ := Kd.R_slice HO159.out; subst eo39) | ((with_reducible refine gate_builtin (b := .append) (xs := #[.tmp 50, .tmp 54]) rfl ?_); (try (refine gate_guard (by rfl) ?_; dsimp only)); at_builtin; refine Kd.S_append (Kd.slice 3 (Kd.int .i64)) (w0 := w) w.heap.size rfl (.tmp 50) (.tmp 54) 28 22 (.slice none 0 0) 24 rfl Try.underlying28 info22 rfl (by decide) (by omega) u6 x6_2 y157 [.slice Ao39 y157.length co39] (fun k_ => some k_ ≠ (.slice (some ad149) t146.length co14 : Value).ownBlock ∧ some k_ ≠ (.slice (some ad153) t150.length co23 : Value).ownBlock ∧ some k_ ≠ (.slice Ao35 t154.length co35 : Value).ownBlock) (fun k_ => some k_ = (.slice Ao39 y157.length co39 : Value).ownBlock) rfl rfl ?aP (fun k_ hk_ => ((Kd.R_mono (ok' := fun k_ => ((fun k_ => some k_ ≠ (.slice (some ad149) t146.length co14 : Value).ownBlock ∧ some k_ ≠ (.slice (some ad153) t150.length co23 : Value).ownBlock ∧ some k_ ≠ (.slice Ao35 t154.length co35 : Value).ownBlock)) k_ ∧ some k_ ≠ (u6 : Value).ownBlock) (Kd.R_apart' (HO159.out) (Kd.S_typed HO_6.out) (by decide)) (fun k_ hk => ⟨⟨hk.1.1.1.2, ⟨hk.1.1.2, hk.1.2⟩⟩, hk.2⟩))).1 k_ hk_.symm) ?aF ?aO ?aB ?aS ?aL ?_; (case aP => exact Kd.M_row (Kd.R_mono (Kd.R_tight rfl (Kd.R_mono (ok' := fun k_ => ((fun k_ => some k_ ≠ (.slice (some ad149) t146.length co14 : Value).ownBlock ∧ some k_ ≠ (.slice (some ad153) t150.length co23 : Value).ownBlock ∧ some k_ ≠ (.slice Ao35 t154.length co35 : Value).ownBlock)) k_ ∧ some k_ ≠ (u6 : Value).ownBlock) (Kd.R_apart' (HO159.out) (Kd.S_typed HO_6.out) (by decide)) (fun k_ hk => ⟨⟨hk.1.1.1.2, ⟨hk.1.1.2, hk.1.2⟩⟩, hk.2⟩))) (fun _ h_ => h_))); (case aB => exact zc1); (case aF => exact (fun k_ hk => ⟨Kd.fresh' (Kd.R_lt zc8) k_ hk, Kd.fresh' (Kd.R_lt zc9) k_ hk, Kd.fresh' (Kd.R_lt zc14) k_ hk⟩)); (case aO => exact (by (with_reducible repeat (first | apply Kd.S_alloc | apply Kd.S_drewN | apply Kd.S_drew)); exact Kd.S_mono HO_6.out (fun k_ hk => ⟨⟨hk.1.1.1, ⟨hk.1.1.2, hk.1.2⟩⟩, fun e_ => hk.2 e_⟩))); (case aS => exact (below_size zc1)); (case aL => have := LMc30.out; omega); intro v161 w38 ho hb hg hat; rw [← Ny160.out] at ho; have n0_ := Aside0.mk (Kd.R_over' zc8 (Kd.S_typed zc11) (by decide) hg); have n1_ := Aside0.mk (Kd.R_over' zc9 (Kd.S_typed zc11) (by decide) hg); have n2_ := Aside0.mk (blk_grown (g := gb143) (o := .cells #[.int .i64 a0_0, .int .i64 a0_1, .slice A0_2 l0_2.length c0_2] 31 (0, 0)) zc5 hg (Kd.S_ne HO_6.out BK143.out (by decide))); have n3_ := Aside0.mk (blk_grown (g := gb144) (o := .cells #[.int .i64 a1_0, .int .i64 a1_1] 33 (0, 0)) zc6 hg (Kd.S_ne HO_6.out BK144.out (by decide))); have n4_ := Aside0.mk (Kd.R_over' zc14 (Kd.S_typed zc11) (by decide) hg); have n5_ := Aside0.mk (hb); have n6_ := Aside0.mk (ho); clear HO_16; clear HO_25; clear BK143; clear BK144; clear HO156; clear HB; clear HO_6; clear HO159; have HO_16 := n0_; have HO_25 := n1_; have BK143 := n2_; have BK144 := n3_; have HO156 := n4_; have HB := n5_; have HO162 := n6_; clear n0_ n1_ n2_ n3_ n4_ n5_ n6_; clear ho hb hg hat))
      go_roundg k2
      case measure => have := HK1.out; have := HK2.out; omega
      case rel => exact ⟨(y160), (wrap64 (x27_2 + 1)), zc20, H', ⟨zc28⟩, ⟨by (with_reducible repeat (first | apply Kd.S_alloc | apply Kd.S_drewN | apply Kd.S_drew)); exact Kd.S_mono HO162.out (fun _ hk => ⟨hk.1, hk.2.1⟩)⟩, ⟨zc32⟩, ⟨zc31⟩, ⟨zc5⟩, ⟨zc6⟩, ⟨zc1⟩⟩
     rw [if_neg c29] at H
     have c29b0 : ((t154.length : Int) == 2) = false := beq_eq_false_iff_ne.mpr c29
     have c29b1 : ((t154.length : Int) != 2) = true := bne_iff_ne.mpr c29
     replace H := Option.bind_eq_some_iff.mp H
     obtain ⟨t163, A400, H⟩ := H
     replace H : (if (t163.length : Int) = 2 then (if x6_2.length < 5864062014805 then (spec_ForcedLeaps.l1 k2 (x6_2 ++ [(([(rd t146 x18_1), rd t150 x27_2] : List Int))]) (rd t146 x18_1) t146 (t146.length : Int) x18_1 t150 (t150.length : Int) (wrap64 (x27_2 + 1)) a0_0 a0_1 l0_2 a1_0 a1_1) else (none)) else (spec_ForcedLeaps.l1 k2 x6_2 (rd t146 x18_1) t146 (t146.length : Int) x18_1 t150 (t150.length : Int) (wrap64 (x27_2 + 1)) a0_0 a0_1 l0_2 a1_0 a1_1)) = some (r1, r2) := H
     have A40 := Aside0.mk A400
     clear A400
     by_cases c41 : (t163.length : Int) = 2
     rotate_left
     ·rw [if_neg c41] at H
      have c41b0 : ((t163.length : Int) == 2) = false := beq_eq_false_iff_ne.mpr c41
      have c41b1 : ((t163.length : Int) != 2) = true := bne_iff_ne.mpr c41
      have H' := Aside0.mk H
      clear H
      have p153 : 0 ≤ (x27_2 : Int) := of_decide_eq_true zc21
      have q153 : x27_2 < (t150.length : Int) := of_decide_eq_true zc21
      obtain ⟨ad153, e153, hx153_0⟩ := Kd.at_int (Kd.R_reads' HO_25.out).2.2 x27_2 p153 q153
      cases e153
      replace p153 := eq_true p153
      replace q153 := eq_true q153
      have hnb56 := NB143_144.out
      have hnc56 := NB144_143.out
      have hcz57_0 : wr.cell? ⟨gb143, 0, none⟩ = some (.int .i64 a0_0) := (blk_cell BK143.out 0).trans rfl
      have hcz57_1 : wr.cell? ⟨gb143, 1, none⟩ = some (.int .i64 a0_1) := (blk_cell BK143.out 1).trans rfl
      have hcz57_2 : wr.cell? ⟨gb143, 2, none⟩ = some (.slice A0_2 l0_2.length c0_2) := (blk_cell BK143.out 2).trans rfl
      have hfz57_0 := blk_frozen BK143.out 0
      have hfz57_1 := blk_frozen BK143.out 1
      have hfz57_2 := blk_frozen BK143.out 2
      have hcz58_0 : wr.cell? ⟨gb144, 0, none⟩ = some (.int .i64 a1_0) := (blk_cell BK144.out 0).trans rfl
      have hcz58_1 : wr.cell? ⟨gb144, 1, none⟩ = some (.int .i64 a1_1) := (blk_cell BK144.out 1).trans rfl
      have hfz58_0 := blk_frozen BK144.out 0
      have hfz58_1 := blk_frozen BK144.out 1
      go_wp2_with (first | (go_at_call 30; (with_reducible refine (spec_boLeaps.calls k2 a0_0 a0_1 _ _ l0_2 a1_0 a1_1 (rd t146 x18_1) t154 _ ?side1 ?side2 A28.out).mono ?_); (case side1 => exact zc7); (case side2 => exact HC0_2.out); rintro e w59 ⟨v155, rfl, ho0, hb⟩; have n0_ := Aside0.mk (Kd.S_elder' zc11 (Kd.R_base ho0) hb); have n1_ := Aside0.mk (Kd.R_elder' zc8 (Kd.R_base ho0) hb); have n2_ := Aside0.mk (Kd.R_elder' zc9 (Kd.R_base ho0) hb); have n3_ := Aside0.mk (Kd.R_lower (Kd.R_new' (Kd.R_new' ho0 (Kd.R_lt zc8)) (Kd.R_lt zc9)) (below_size zc1)); have n4_ := Aside0.mk (blk_below (g := gb143) (o := .cells #[.int .i64 a0_0, .int .i64 a0_1, .slice A0_2 l0_2.length c0_2] 31 (0, 0)) zc5 hb); have n5_ := Aside0.mk (blk_below (g := gb144) (o := .cells #[.int .i64 a1_0, .int .i64 a1_1] 33 (0, 0)) zc6 hb); have n6_ := Aside0.mk (below_step zc1 hb); clear HO_6; clear HO_16; clear HO_25; clear BK143; clear BK144; clear HB; have HO_6 := n0_; have HO_16 := n1_; have HO_25 := n2_; have HO156 := n3_; have BK143 := n4_; have BK144 := n5_; have HB := n6_; clear n0_ n1_ n2_ n3_ n4_ n5_ n6_; (try clear hb); (try clear hb2); (try clear hk); (try clear hi); (try clear ho0); (try clear hna_); (try clear hnb_); obtain ⟨Ao60, co60, eo60⟩ := Kd.R_slice HO156.out; subst eo60; have hcz61_0 : w59.cell? ⟨gb143, 0, none⟩ = some (.int .i64 a0_0) := (blk_cell BK143.out 0).trans rfl; have hcz61_1 : w59.cell? ⟨gb143, 1, none⟩ = some (.int .i64 a0_1) := (blk_cell BK143.out 1).trans rfl; have hcz61_2 : w59.cell? ⟨gb143, 2, none⟩ = some (.slice A0_2 l0_2.length c0_2) := (blk_cell BK143.out 2).trans rfl; have hfz61_0 := blk_frozen BK143.out 0; have hfz61_1 := blk_frozen BK143.out 1; have hfz61_2 := blk_frozen BK143.out 2; have hcz62_0 : w59.cell? ⟨gb144, 0, none⟩ = some (.int .i64 a1_0) := (blk_cell BK144.out 0).trans rfl; have hcz62_1 : w59.cell? ⟨gb144, 1, none⟩ = some (.int .i64 a1_1) := (blk_cell BK144.out 1).trans rfl; have hfz62_0 := blk_frozen BK144.out 0; have hfz62_1 := blk_frozen BK144.out 1) | (go_at_call 30; (with_reducible refine (spec_boLeaps.calls k2 a0_0 a0_1 _ _ l0_2 a1_0 a1_1 (rd t150 x27_2) t163 _ ?side1 ?side2 A40.out).mono ?_); (case side1 => exact zc7); (case side2 => exact HC0_2.out); rintro e w63 ⟨v164, rfl, ho0, hb⟩; have n0_ := Aside0.mk (Kd.S_elder' zc11 (Kd.R_base ho0) hb); have n1_ := Aside0.mk (Kd.R_elder' zc8 (Kd.R_base ho0) hb); have n2_ := Aside0.mk (Kd.R_elder' zc9 (Kd.R_base ho0) hb); have n3_ := Aside0.mk (Kd.R_elder' zc14 (Kd.R_base ho0) hb); have n4_ := Aside0.mk (Kd.R_lower (Kd.R_new' (Kd.R_new' (Kd.R_new' ho0 (Kd.R_lt zc8)) (Kd.R_lt zc9)) (Kd.R_lt zc14)) (below_size zc1)); have n5_ := Aside0.mk (blk_below (g := gb143) (o := .cells #[.int .i64 a0_0, .int .i64 a0_1, .slice A0_2 l0_2.length c0_2] 31 (0, 0)) zc5 hb); have n6_ := Aside0.mk (blk_below (g := gb144) (o := .cells #[.int .i64 a1_0, .int .i64 a1_1] 33 (0, 0)) zc6 hb); have n7_ := Aside0.mk (below_step zc1 hb); clear HO_6; clear HO_16; clear HO_25; clear HO156; clear BK143; clear BK144; clear HB; have HO_6 := n0_; have HO_16 := n1_; have HO_25 := n2_; have HO156 := n3_; have HO165 := n4_; have BK143 := n5_; have BK144 := n6_; have HB := n7_; clear n0_ n1_ n2_ n3_ n4_ n5_ n6_ n7_; (try clear hb); (try clear hb2); (try clear hk); (try clear hi); (try clear ho0); (try clear hna_); (try clear hnb_); obtain ⟨Ao64, co64, eo64⟩ := Kd.R_slice HO165.out; subst eo64))
      go_roundg k2
      case measure => have := HK1.out; have := HK2.out; omega
      case rel => exact ⟨(x6_2), (wrap64 (x27_2 + 1)), zc20, H', ⟨zc28⟩, ⟨by (with_reducible repeat (first | apply Kd.S_alloc | apply Kd.S_drewN | apply Kd.S_drew)); exact Kd.S_mono HO_6.out (fun _ hk => ⟨hk.1.1.1, hk.1.1.2⟩)⟩, ⟨zc32⟩, ⟨zc31⟩, ⟨zc5⟩, ⟨zc6⟩, ⟨zc1⟩⟩
     rw [if_pos c41] at H
     have c41b0 : ((t163.length : Int) == 2) = true := beq_iff_eq.mpr c41
     have c41b1 : ((t163.length : Int) != 2) = false := bne_eq_false_iff_eq.mpr c41
     clear c41
     obtain ⟨y166, hy166⟩ : ∃ y_ : List Int, y_ = (([(rd t146 x18_1), rd t150 x27_2] : List Int)) := ⟨_, rfl⟩
     replace H : (if x6_2.length < 5864062014805 then (spec_ForcedLeaps.l1 k2 (x6_2 ++ [y166]) (rd t146 x18_1) t146 (t146.length : Int) x18_1 t150 (t150.length : Int) (wrap64 (x27_2 + 1)) a0_0 a0_1 l0_2 a1_0 a1_1) else (none)) = some (r1, r2) := by first | (rw [hy166]; with_reducible exact H) | (have H2_ := (Option.bind_some _ _).symm.trans H; rw [hy166]; with_reducible exact H2_) | (have H2_ := (Option.bind_some _ _).symm.trans H; with_reducible exact H2_) | with_reducible exact H | (rw [hy166]; exact H) | exact H
     have Ny166 := Aside0.mk hy166
     clear hy166
     by_cases c42 : x6_2.length < 5864062014805
     rotate_left
     ·rw [if_neg c42] at H
      exact absurd H (by simp)
     rw [if_pos c42] at H
     have LMc42 := Aside0.mk c42
     clear c42
     obtain ⟨y169, hy169⟩ : ∃ y_ : List (List Int), y_ = (x6_2 ++ [y166]) := ⟨_, rfl⟩
     replace H : (spec_ForcedLeaps.l1 k2 y169 (rd t146 x18_1) t146 (t146.length : Int) x18_1 t150 (t150.length : Int) (wrap64 (x27_2 + 1)) a0_0 a0_1 l0_2 a1_0 a1_1) = some (r1, r2) := by first | (rw [hy169]; with_reducible exact H) | (have H2_ := (Option.bind_some _ _).symm.trans H; rw [hy169]; with_reducible exact H2_) | (have H2_ := (Option.bind_some _ _).symm.trans H; with_reducible exact H2_) | with_reducible exact H | (rw [hy169]; exact H) | exact H
     have Ny169 := Aside0.mk hy169
     clear hy169
     have H' := Aside0.mk H
     clear H
     have p153 : 0 ≤ (x27_2 : Int) := of_decide_eq_true zc21
     have q153 : x27_2 < (t150.length : Int) := of_decide_eq_true zc21
     obtain ⟨ad153, e153, hx153_0⟩ := Kd.at_int (Kd.R_reads' HO_25.out).2.2 x27_2 p153 q153
     cases e153
     replace p153 := eq_true p153
     replace q153 := eq_true q153
     have hnb43 := NB143_144.out
     have hnc43 := NB144_143.out
     have hcz44_0 : wr.cell? ⟨gb143, 0, none⟩ = some (.int .i64 a0_0) := (blk_cell BK143.out 0).trans rfl
     have hcz44_1 : wr.cell? ⟨gb143, 1, none⟩ = some (.int .i64 a0_1) := (blk_cell BK143.out 1).trans rfl
     have hcz44_2 : wr.cell? ⟨gb143, 2, none⟩ = some (.slice A0_2 l0_2.length c0_2) := (blk_cell BK143.out 2).trans rfl
     have hfz44_0 := blk_frozen BK143.out 0
     have hfz44_1 := blk_frozen BK143.out 1
     have hfz44_2 := blk_frozen BK143.out 2
     have hcz45_0 : wr.cell? ⟨gb144, 0, none⟩ = some (.int .i64 a1_0) := (blk_cell BK144.out 0).trans rfl
     have hcz45_1 : wr.cell? ⟨gb144, 1, none⟩ = some (.int .i64 a1_1) := (blk_cell BK144.out 1).trans rfl
     have hfz45_0 := blk_frozen BK144.out 0
     have hfz45_1 := blk_frozen BK144.out 1
     go_wp2_with (first | (go_at_call 30; (with_reducible refine (spec_boLeaps.calls k2 a0_0 a0_1 _ _ l0_2 a1_0 a1_1 (rd t146 x18_1) t154 _ ?side1 ?side2 A28.out).mono ?_); (case side1 => exact zc7); (case side2 => exact HC0_2.out); rintro e w46 ⟨v155, rfl, ho0, hb⟩; have n0_ := Aside0.mk (Kd.S_elder' zc11 (Kd.R_base ho0) hb); have n1_ := Aside0.mk (Kd.R_elder' zc8 (Kd.R_base ho0) hb); have n2_ := Aside0.mk (Kd.R_elder' zc9 (Kd.R_base ho0) hb); have n3_ := Aside0.mk (Kd.R_lower (Kd.R_new' (Kd.R_new' ho0 (Kd.R_lt zc8)) (Kd.R_lt zc9)) (below_size zc1)); have n4_ := Aside0.mk (blk_below (g := gb143) (o := .cells #[.int .i64 a0_0, .int .i64 a0_1, .slice A0_2 l0_2.length c0_2] 31 (0, 0)) zc5 hb); have n5_ := Aside0.mk (blk_below (g := gb144) (o := .cells #[.int .i64 a1_0, .int .i64 a1_1] 33 (0, 0)) zc6 hb); have n6_ := Aside0.mk (below_step zc1 hb); clear HO_6; clear HO_16; clear HO_25; clear BK143; clear BK144; clear HB; have HO_6 := n0_; have HO_16 := n1_; have HO_25 := n2_; have HO156 := n3_; have BK143 := n4_; have BK144 := n5_; have HB := n6_; clear n0_ n1_ n2_ n3_ n4_ n5_ n6_; (try clear hb); (try clear hb2); (try clear hk); (try clear hi); (try clear ho0); (try clear hna_); (try clear hnb_); obtain ⟨Ao47, co47, eo47⟩ := Kd.R_slice HO156.out; subst eo47; have hcz48_0 : w46.cell? ⟨gb143, 0, none⟩ = some (.int .i64 a0_0) := (blk_cell BK143.out 0).trans rfl; have hcz48_1 : w46.cell? ⟨gb143, 1, none⟩ = some (.int .i64 a0_1) := (blk_cell BK143.out 1).trans rfl; have hcz48_2 : w46.cell? ⟨gb143, 2, none⟩ = some (.slice A0_2 l0_2.length c0_2) := (blk_cell BK143.out 2).trans rfl; have hfz48_0 := blk_frozen BK143.out 0; have hfz48_1 := blk_frozen BK143.out 1; have hfz48_2 := blk_frozen BK143.out 2; have hcz49_0 : w46.cell? ⟨gb144, 0, none⟩ = some (.int .i64 a1_0) := (blk_cell BK144.out 0).trans rfl; have hcz49_1 : w46.cell? ⟨gb144, 1, none⟩ = some (.int .i64 a1_1) := (blk_cell BK144.out 1).trans rfl; have hfz49_0 := blk_frozen BK144.out 0; have hfz49_1 := blk_frozen BK144.out 1) | (go_at_call 30; (with_reducible refine (spec_boLeaps.calls k2 a0_0 a0_1 _ _ l0_2 a1_0 a1_1 (rd t150 x27_2) t163 _ ?side1 ?side2 A40.out).mono ?_); (case side1 => exact zc7); (case side2 => exact HC0_2.out); rintro e w50 ⟨v164, rfl, ho0, hb⟩; have n0_ := Aside0.mk (Kd.S_elder' zc11 (Kd.R_base ho0) hb); have n1_ := Aside0.mk (Kd.R_elder' zc8 (Kd.R_base ho0) hb); have n2_ := Aside0.mk (Kd.R_elder' zc9 (Kd.R_base ho0) hb); have n3_ := Aside0.mk (Kd.R_elder' zc14 (Kd.R_base ho0) hb); have n4_ := Aside0.mk (Kd.R_lower (Kd.R_new' (Kd.R_new' (Kd.R_new' ho0 (Kd.R_lt zc8)) (Kd.R_lt zc9)) (Kd.R_lt zc14)) (below_size zc1)); have n5_ := Aside0.mk (blk_below (g := gb143) (o := .cells #[.int .i64 a0_0, .int .i64 a0_1, .slice A0_2 l0_2.length c0_2] 31 (0, 0)) zc5 hb); have n6_ := Aside0.mk (blk_below (g := gb144) (o := .cells #[.int .i64 a1_0, .int .i64 a1_1] 33 (0, 0)) zc6 hb); have n7_ := Aside0.mk (below_step zc1 hb); clear HO_6; clear HO_16; clear HO_25; clear HO156; clear BK143; clear BK144; clear HB; have HO_6 := n0_; have HO_16 := n1_; have HO_25 := n2_; have HO156 := n3_; have HO165 := n4_; have BK143 := n5_; have BK144 := n6_; have HB := n7_; clear n0_ n1_ n2_ n3_ n4_ n5_ n6_ n7_; (try clear hb); (try clear hb2); (try clear hk); (try clear hi); (try clear ho0); (try clear hna_); (try clear hnb_); obtain ⟨Ao51, co51, eo51⟩ := Kd.R_slice HO165.out; subst eo51) | ((with_reducible refine gate_dst (N := 53) rfl ?_); (try (refine gate_guard (by rfl) ?_; dsimp only)); refine Kd.R_lit (Kd.int .i64) _ 3 ?hg (N := 53) ?hd (xs := ([(rd t146 x18_1), rd t150 x27_2] : List Int)) (inner := [.int .i64 (rd t146 x18_1), .int .i64 (rd t150 x27_2)]) (ok := fun _ => True) (okp := fun _ => True) ?hr ?hp (fun _ hk => hk) trivial (Below.refl _ _) (Nat.le_refl _) (by simp) ?_; (case hd => rfl); (case hg => rfl); (case hr => first | (go_simp; done) | (go_simp; rfl)); (case hp => exact (Reps.one (show Kd.M (Kd.int .i64) _ _ _ (rd t146 x18_1) [.int .i64 (rd t146 x18_1)] from rfl) (Reps.one (show Kd.M (Kd.int .i64) _ _ _ (rd t150 x27_2) [.int .i64 (rd t150 x27_2)] from rfl) (Reps.none _ _)))); intro v167 w52 ho53 hb hg_ hnew_; clear hg_ hnew_; (first | rw [← Ny166.out] at ho53 | (simp only [Int.reduceToNat] at ho53; rw [← Ny166.out] at ho53)); have n0_ := Aside0.mk (Kd.S_elder' zc11 (Kd.R_base ho53) hb); have n1_ := Aside0.mk (Kd.R_elder' zc8 (Kd.R_base ho53) hb); have n2_ := Aside0.mk (Kd.R_elder' zc9 (Kd.R_base ho53) hb); have n3_ := Aside0.mk (Kd.R_elder' zc14 (Kd.R_base ho53) hb); have n4_ := Aside0.mk (Kd.R_elder' zc26 (Kd.R_base ho53) hb); have n5_ := Aside0.mk (Kd.R_lower (Kd.R_new' (Kd.R_new' (Kd.R_new' (Kd.R_new' ho53 (Kd.R_lt zc8)) (Kd.R_lt zc9)) (Kd.R_lt zc14)) (Kd.R_lt zc26)) (below_size zc1)); have n6_ := Aside0.mk (blk_below (g := gb143) (o := .cells #[.int .i64 a0_0, .int .i64 a0_1, .slice A0_2 l0_2.length c0_2] 31 (0, 0)) zc5 hb); have n7_ := Aside0.mk (blk_below (g := gb144) (o := .cells #[.int .i64 a1_0, .int .i64 a1_1] 33 (0, 0)) zc6 hb); have n8_ := Aside0.mk (below_step zc1 hb); clear HO_6; clear HO_16; clear HO_25; clear HO156; clear HO165; clear BK143; clear BK144; clear HB; have HO_6 := n0_; have HO_16 := n1_; have HO_25 := n2_; have HO156 := n3_; have HO165 := n4_; have HO168 := n5_; have BK143 := n6_; have BK144 := n7_; have HB := n8_; clear n0_ n1_ n2_ n3_ n4_ n5_ n6_ n7_ n8_; clear hb ho53; obtain ⟨Ao55, co55, eo55⟩ := Kd.R_slice HO168.out; subst eo55) | ((with_reducible refine gate_builtin (b := .append) (xs := #[.tmp 50, .tmp 54]) rfl ?_); (try (refine gate_guard (by rfl) ?_; dsimp only)); at_builtin; refine Kd.S_append (Kd.slice 3 (Kd.int .i64)) (w0 := w) w.heap.size rfl (.tmp 50) (.tmp 54) 28 22 (.slice none 0 0) 24 rfl Try.underlying28 info22 rfl (by decide) (by omega) u6 x6_2 y166 [.slice Ao55 y166.length co55] (fun k_ => some k_ ≠ (.slice (some ad149) t146.length co14 : Value).ownBlock ∧ some k_ ≠ (.slice (some ad153) t150.length co23 : Value).ownBlock ∧ some k_ ≠ (.slice Ao47 t154.length co47 : Value).ownBlock ∧ some k_ ≠ (.slice Ao51 t163.length co51 : Value).ownBlock) (fun k_ => some k_ = (.slice Ao55 y166.length co55 : Value).ownBlock) rfl rfl ?aP (fun k_ hk_ => ((Kd.R_mono (ok' := fun k_ => ((fun k_ => some k_ ≠ (.slice (some ad149) t146.length co14 : Value).ownBlock ∧ some k_ ≠ (.slice (some ad153) t150.length co23 : Value).ownBlock ∧ some k_ ≠ (.slice Ao47 t154.length co47 : Value).ownBlock ∧ some k_ ≠ (.slice Ao51 t163.length co51 : Value).ownBlock)) k_ ∧ some k_ ≠ (u6 : Value).ownBlock) (Kd.R_apart' (HO168.out) (Kd.S_typed HO_6.out) (by decide)) (fun k_ hk => ⟨⟨hk.1.1.1.1.2, ⟨hk.1.1.1.2, ⟨hk.1.1.2, hk.1.2⟩⟩⟩, hk.2⟩))).1 k_ hk_.symm) ?aF ?aO ?aB ?aS ?aL ?_; (case aP => exact Kd.M_row (Kd.R_mono (Kd.R_tight rfl (Kd.R_mono (ok' := fun k_ => ((fun k_ => some k_ ≠ (.slice (some ad149) t146.length co14 : Value).ownBlock ∧ some k_ ≠ (.slice (some ad153) t150.length co23 : Value).ownBlock ∧ some k_ ≠ (.slice Ao47 t154.length co47 : Value).ownBlock ∧ some k_ ≠ (.slice Ao51 t163.length co51 : Value).ownBlock)) k_ ∧ some k_ ≠ (u6 : Value).ownBlock) (Kd.R_apart' (HO168.out) (Kd.S_typed HO_6.out) (by decide)) (fun k_ hk => ⟨⟨hk.1.1.1.1.2, ⟨hk.1.1.1.2, ⟨hk.1.1.2, hk.1.2⟩⟩⟩, hk.2⟩))) (fun _ h_ => h_))); (case aB => exact zc1); (case aF => exact (fun k_ hk => ⟨Kd.fresh' (Kd.R_lt zc8) k_ hk, Kd.fresh' (Kd.R_lt zc9) k_ hk, Kd.fresh' (Kd.R_lt zc14) k_ hk, Kd.fresh' (Kd.R_lt zc26) k_ hk⟩)); (case aO => exact (by (with_reducible repeat (first | apply Kd.S_alloc | apply Kd.S_drewN | apply Kd.S_drew)); exact Kd.S_mono HO_6.out (fun k_ hk => ⟨⟨hk.1.1.1.1, ⟨hk.1.1.1.2, ⟨hk.1.1.2, hk.1.2⟩⟩⟩, fun e_ => hk.2 e_⟩))); (case aS => exact (below_size zc1)); (case aL => have := LMc42.out; omega); intro v170 w54 ho hb hg hat; rw [← Ny169.out] at ho; have n0_ := Aside0.mk (Kd.R_over' zc8 (Kd.S_typed zc11) (by decide) hg); have n1_ := Aside0.mk (Kd.R_over' zc9 (Kd.S_typed zc11) (by decide) hg); have n2_ := Aside0.mk (blk_grown (g := gb143) (o := .cells #[.int .i64 a0_0, .int .i64 a0_1, .slice A0_2 l0_2.length c0_2] 31 (0, 0)) zc5 hg (Kd.S_ne HO_6.out BK143.out (by decide))); have n3_ := Aside0.mk (blk_grown (g := gb144) (o := .cells #[.int .i64 a1_0, .int .i64 a1_1] 33 (0, 0)) zc6 hg (Kd.S_ne HO_6.out BK144.out (by decide))); have n4_ := Aside0.mk (Kd.R_over' zc14 (Kd.S_typed zc11) (by decide) hg); have n5_ := Aside0.mk (Kd.R_over' zc26 (Kd.S_typed zc11) (by decide) hg); have n6_ := Aside0.mk (hb); have n7_ := Aside0.mk (ho); clear HO_16; clear HO_25; clear BK143; clear BK144; clear HO156; clear HO165; clear HB; clear HO_6; clear HO168; have HO_16 := n0_; have HO_25 := n1_; have BK143 := n2_; have BK144 := n3_; have HO156 := n4_; have HO165 := n5_; have HB := n6_; have HO171 := n7_; clear n0_ n1_ n2_ n3_ n4_ n5_ n6_ n7_; clear ho hb hg hat))
     go_roundg k2
     case measure => have := HK1.out; have := HK2.out; omega
     case rel => exact ⟨(y169), (wrap64 (x27_2 + 1)), zc20, H', ⟨zc28⟩, ⟨by (with_reducible repeat (first | apply Kd.S_alloc | apply Kd.S_drewN | apply Kd.S_drew)); exact Kd.S_mono HO171.out (fun _ hk => ⟨hk.1, hk.2.1⟩)⟩, ⟨by (with_reducible repeat (first | apply Kd.R_alloc | apply Kd.R_drewN | apply Kd.R_drew)); exact Kd.R_mono HO_16.out (fun _ hk => hk.1.1.1)⟩, ⟨by (with_reducible repeat (first | apply Kd.R_alloc | apply Kd.R_drewN | apply Kd.R_drew)); exact Kd.R_mono HO_25.out (fun _ hk => hk.1.1.1)⟩, ⟨zc5⟩, ⟨zc6⟩, ⟨zc1⟩⟩

end Go.Proofs.Ytemaokhlolimhaa.Q

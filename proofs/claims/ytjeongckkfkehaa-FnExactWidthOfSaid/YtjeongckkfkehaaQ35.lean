/- Written by a program of this session: functions of the translation as plain Lean functions, each with a proof that the call does what the plain function says; the conditions stand in each theorem. -/
import Derived.Test.YtjeongckkfkehaaQ0
import Derived.Test.YtjeongckkfkehaaQ1
import Derived.Test.YtjeongckkfkehaaQ12
import Derived.Test.YtjeongckkfkehaaQ23
namespace Go.Proofs.Ytjeongckkfkehaa.Q
open Go.RowKit Go.Proofs.YtjeongckkfkehaaW.PrintWords Go.Proofs.YtjeongckkfkehaaW.PrintLast Go.Proofs.YtjeongckkfkehaaW.PrintMore
attribute [local go_sem] max2_int min2_int max_two min_two max_three min_three max_four min_four   -- for this text's walks alone
set_option linter.unusedVariables false
set_option linter.unusedSimpArgs false

theorem zaj1 {p : Prop} (h : p := by repeat (first | (with_reducible first | exact HB.out | apply below_alloc | apply pw_below_drewN | apply below_drew1 | refine below_set ?_ GE984.out | refine below_set ?_ GE985.out) | exact HB.out)) : p := h
theorem zaj2 {p : Prop} (h : p := by repeat (first | (with_reducible first | exact HB.out | apply below_alloc | apply pw_below_drewN | apply below_drew1 | refine below_set ?_ GE1008.out | refine below_set ?_ GE1009.out) | exact HB.out)) : p := h
theorem zaj3 {p : Prop} (h : p := by first | (with_reducible assumption) | assumption) : p := h
theorem zaj4 {p : Prop} (h : p := by (with_reducible repeat (first | refine blk_drewN ?_ _ | refine blk_drew ?_ | refine blk_alloc ?_ _)); exact BK1008.out) : p := h
theorem zaj5 {p : Prop} (h : p := by (with_reducible repeat (first | refine blk_drewN ?_ _ | refine blk_drew ?_ | refine blk_alloc ?_ _)); exact BK984.out) : p := h
theorem zaj6 {p : Prop} (h : p := by repeat (first | exact (Kd.C_below HR0_2.out HB.out) | (with_reducible refine Kd.C_alloc ?_ _) | (with_reducible refine Kd.C_drewN ?_ _) | (with_reducible refine Kd.C_drew ?_))) : p := h
theorem zaj7 {p : Prop} (h : p := by (try simp only [List.map_toArray, List.map_cons, List.map_nil]); first | done | rfl | (simp only [List.length_drop, List.length_take]; rfl)) : p := h
theorem zaj8 {p : Prop} (h : p := by first | rfl | (simp; done) | (simp [*]; done)) : p := h
theorem zaj9 {p : Prop} (h : p := by (with_reducible repeat (first | refine blk_drewN ?_ _ | refine blk_drew ?_ | refine blk_alloc ?_ _)); exact BK1009.out) : p := h
theorem zaj10 {p : Prop} (h : p := by (with_reducible repeat (first | refine blk_drewN ?_ _ | refine blk_drew ?_ | refine blk_alloc ?_ _)); exact BK985.out) : p := h
theorem zaj11 {p : Prop} (h : p := by repeat (first | (with_reducible first | exact HB.out | apply below_alloc | apply pw_below_drewN | apply below_drew1) | exact HB.out)) : p := h
theorem zaj12 {p : Prop} (h : p := by (with_reducible repeat (first | apply Kd.R_alloc | apply Kd.R_drewN | apply Kd.R_drew)); exact HO_19.out) : p := h
theorem zaj13 {p : Prop} (h : p := by (with_reducible repeat (first | apply Kd.S_alloc | apply Kd.S_drewN | apply Kd.S_drew)); exact HO_6.out) : p := h
theorem zaj14 {p : Prop} (h : p := by (with_reducible repeat (first | apply Kd.R_alloc | apply Kd.R_drewN | apply Kd.R_drew)); exact HO_5.out) : p := h
theorem zaj15 {p : Prop} (h : p := by repeat (first | (with_reducible first | exact HB.out | apply below_alloc | apply pw_below_drewN | apply below_drew1 | refine below_set ?_ GE1008.out) | exact HB.out)) : p := h
theorem zaj16 {p : Prop} (h : p := by repeat (first | (with_reducible first | exact HB.out | apply below_alloc | apply pw_below_drewN | apply below_drew1 | refine below_set ?_ GE984.out) | exact HB.out)) : p := h
theorem zaj17 {p : Prop} (h : p := by (with_reducible repeat (first | apply Kd.R_alloc | apply Kd.R_drewN | apply Kd.R_drew)); exact HO_32.out) : p := h
theorem zaj18 {p : Prop} (h : p := by (try simp only [hl5_2]); (with_reducible repeat (first | refine blk_drewN ?_ _ | refine blk_drew ?_ | refine blk_alloc ?_ _)); exact BK985.out) : p := h
theorem zaj19 {p : Prop} (h : p := by (try simp only [hl5_2]); (with_reducible repeat (first | refine blk_drewN ?_ _ | refine blk_drew ?_ | refine blk_alloc ?_ _)); exact BK984.out) : p := h
theorem zaj20 {p : Prop} (h : p := by repeat (first | exact Drawn0.refl _ | apply Drawn0.step)) : p := h
theorem zaj21 {p : Prop} (h : p := by (try simp only [hl5_2]); (with_reducible repeat (first | apply Kd.R_alloc | apply Kd.R_drewN | apply Kd.R_drew)); exact HO_5.out) : p := h
/-! ### spec_faParts: function 73 -/
mutual
def spec_faParts.l0 : Nat → List Bool → List (List Int) → List Int → Int → Int → Int → Int → List Int → Int → Int → Option ((List (List Int)))
 | 0, _, _, _, _, _, _, _, _, _, _ => none
 | k + 1, x5, x6, x19, x20, x21, x985000, x985001, x985002, x986000, x986001 => if x21 < x20 then (if 0 ≤ x21 then (if x21 < (x19.length : Int) then (if 0 ≤ (rd x19 x21) then (if (rd x19 x21) < (x5.length : Int) then (if rdOf false x5 (rd x19 x21) = true then (spec_faParts.l0 k x5 x6 x19 x20 (wrap64 (x21 + 1)) x985000 x985001 x985002 x986000 x986001) else ((spec_faFrom.f k x985000 x985001 x985002 x986000 x986001 (rd x19 x21)).bind fun t994 => (spec_faParts.l1 k x5 x6 ([] : List Int) x19 x20 x21 t994 (t994.length : Int) 0 x985000 x985001 x985002 x986000 x986001))) else (none)) else (none)) else (none)) else (none)) else (some x6)
def spec_faParts.l1 : Nat → List Bool → List (List Int) → List Int → List Int → Int → Int → List Int → Int → Int → Int → Int → List Int → Int → Int → Option ((List (List Int)))
 | 0, _, _, _, _, _, _, _, _, _, _, _, _, _, _ => none
 | k + 1, x5, x6, x9, x19, x20, x21, x32, x33, x34, x985000, x985001, x985002, x986000, x986001 => if x34 < x33 then (if 0 ≤ x34 then (if x34 < (x32.length : Int) then (if (rd x32 x34) ≥ 0 then (if x9.length < 17592186044416 then (if x34 < (x5.length : Int) then (spec_faParts.l1 k (x5.set (x34 : Int).toNat true) x6 (x9 ++ [x34]) x19 x20 x21 x32 x33 (wrap64 (x34 + 1)) x985000 x985001 x985002 x986000 x986001) else (none)) else (none)) else (spec_faParts.l1 k x5 x6 x9 x19 x20 x21 x32 x33 (wrap64 (x34 + 1)) x985000 x985001 x985002 x986000 x986001)) else (none)) else (none)) else (if x6.length < 5864062014805 then (spec_faParts.l0 k x5 (x6 ++ [x9]) x19 x20 (wrap64 (x21 + 1)) x985000 x985001 x985002 x986000 x986001) else (none))
end
def spec_faParts.f (k : Nat) (a0_0 : Int) (a0_1 : Int) (l0_2 : List Int) (a1_0 : Int) (a1_1 : Int) : Option ((List (List Int))) := if 0 ≤ (wrap64 (a0_0 * a0_1)) then (if (wrap64 (a0_0 * a0_1) : Int).toNat ≤ 281474976710656 then ((spec_boCells.f k a0_0 a0_1 l0_2).bind fun t989 => (spec_faParts.l0 k (List.replicate (wrap64 (a0_0 * a0_1) : Int).toNat false) ([] : List (List Int)) t989 (t989.length : Int) 0 a0_0 a0_1 l0_2 a1_0 a1_1)) else (none)) else (none)
set_option maxHeartbeats 8000000 in
set_option maxRecDepth 100000 in
theorem spec_faParts.calls (k : Nat) (a0_0 : Int) (a0_1 : Int) (A0_2 : Option Addr) (c0_2 : Nat) (l0_2 : List Int) (a1_0 : Int) (a1_1 : Int) (r : List (List Int)) (w : World) (hr0_2 : Kd.C (Kd.int .i64) w A0_2 l0_2.length l0_2) (hc0_2 : l0_2.length ≤ c0_2) (h : spec_faParts.f k a0_0 a0_1 l0_2 a1_0 a1_1 = some r) :
  Calls Try.prog 73 #[.agg #[.int .i64 a0_0, .int .i64 a0_1, .slice A0_2 l0_2.length c0_2], .agg #[.int .i64 a1_0, .int .i64 a1_1]] w fun e w' => ∃ v0_ : Value, e = .returned (v0_) ∧ Kd.S (Kd.slice 3 (Kd.int .i64)) 22 w' w.heap.size (fun _ => True) v0_ r ∧ Below w.heap.size w w' := by
 have hu30 := Try.underlying30
 have hu32 := Try.underlying32
 have HR0_2 := Aside0.mk hr0_2
 have HC0_2 := Aside0.mk hc0_2
 clear hr0_2 hc0_2
 have HB := Aside0.mk (Below.refl w.heap.size w)
 have H : (if 0 ≤ (wrap64 (a0_0 * a0_1)) then (if (wrap64 (a0_0 * a0_1) : Int).toNat ≤ 281474976710656 then ((spec_boCells.f k a0_0 a0_1 l0_2).bind fun t989 => (spec_faParts.l0 k (List.replicate (wrap64 (a0_0 * a0_1) : Int).toNat false) ([] : List (List Int)) t989 (t989.length : Int) 0 a0_0 a0_1 l0_2 a1_0 a1_1)) else (none)) else (none)) = some r := h
 clear h
 obtain ⟨ji3, hji3⟩ : ∃ j_ : Int, (wrap64 (a0_0 * a0_1)) = j_ := ⟨_, rfl⟩
 replace H : (if 0 ≤ (ji3) then (if (ji3 : Int).toNat ≤ 281474976710656 then ((spec_boCells.f k a0_0 a0_1 l0_2).bind fun t989 => (spec_faParts.l0 k (List.replicate (ji3 : Int).toNat false) ([] : List (List Int)) t989 (t989.length : Int) 0 a0_0 a0_1 l0_2 a1_0 a1_1)) else (none)) else (none)) = some r := by first | (rw [hji3] at H; exact H) | (simp only [hji3] at H ⊢; exact H)
 have hji3w : (IntKind.i64.wrap (a0_0 * a0_1)) = ji3 := (i64_w _).trans hji3
 by_cases c4 : 0 ≤ (ji3)
 rotate_left
 ·rw [if_neg c4] at H
  exact absurd H (by simp)
 rw [if_pos c4] at H
 have c4b0 := eq_true c4
 have c4b1 : decide (0 ≤ (ji3)) = true := decide_eq_true c4
 clear c4
 by_cases c5 : (ji3 : Int).toNat ≤ 281474976710656
 rotate_left
 ·rw [if_neg c5] at H
  exact absurd H (by simp)
 rw [if_pos c5] at H
 have c5b0 := eq_true c5
 have c5b1 : decide ((ji3 : Int).toNat ≤ 281474976710656) = true := decide_eq_true c5
 clear c5
 obtain ⟨y986, hy986⟩ : ∃ y_ : List Bool, y_ = (List.replicate (ji3 : Int).toNat false) := ⟨_, rfl⟩
 replace H : ((spec_boCells.f k a0_0 a0_1 l0_2).bind fun t989 => (spec_faParts.l0 k y986 ([] : List (List Int)) t989 (t989.length : Int) 0 a0_0 a0_1 l0_2 a1_0 a1_1)) = some r := by first | (rw [hy986]; with_reducible exact H) | (have H2_ := (Option.bind_some _ _).symm.trans H; rw [hy986]; with_reducible exact H2_) | (have H2_ := (Option.bind_some _ _).symm.trans H; with_reducible exact H2_) | with_reducible exact H | (rw [hy986]; exact H) | exact H
 have Ny986 := Aside0.mk hy986
 clear hy986
 replace H := Option.bind_eq_some_iff.mp H
 obtain ⟨t989, A60, H⟩ := H
 replace H : (spec_faParts.l0 k y986 ([] : List (List Int)) t989 (t989.length : Int) 0 a0_0 a0_1 l0_2 a1_0 a1_1) = some r := H
 have A6 := Aside0.mk A60
 clear A60
 have H' := Aside0.mk H
 clear H
 go_enter Try.func73, Try.ntmps73
 go_wp2_with (first | ((with_reducible refine gate_dst (N := 2) rfl ?_); refine box_event ?hg (N := 2) ?hd (cs := #[.int .i64 a0_0, .int .i64 a0_1, .slice A0_2 l0_2.length c0_2]) (t := 30) ?hr ?_; (case hd => rfl); (case hg => rfl); (case hr => first | (go_simp; done) | (go_simp; rfl)); intro gb984 hg w7 hbox hb; have n0_ := Aside0.mk (below_step zaj11 hb); have n1_ := Aside0.mk (hbox); have n2_ := Aside0.mk ((by rw [hg]; exact (below_size zaj11) : w.heap.size ≤ gb984)); have n3_ := Aside0.mk ((by rw [hg]; exact (below_size zaj11) : w.heap.size ≤ gb984)); clear HB; have HB := n0_; have BK984 := n1_; have GW984 := n2_; have GE984 := n3_; clear n0_ n1_ n2_ n3_; clear hb hbox hg) | ((with_reducible refine gate_dst (N := 3) rfl ?_); refine box_event ?hg (N := 3) ?hd (cs := #[.int .i64 a1_0, .int .i64 a1_1]) (t := 32) ?hr ?_; (case hd => rfl); (case hg => rfl); (case hr => first | (go_simp; done) | (go_simp; rfl)); intro gb985 hg w8 hbox hb; have n0_ := Aside0.mk (blk_below (g := gb984) (o := .cells #[.int .i64 a0_0, .int .i64 a0_1, .slice A0_2 l0_2.length c0_2] 30 (0, 0)) zaj5 hb); have n1_ := Aside0.mk (below_step zaj16 hb); have n2_ := Aside0.mk (hbox); have n3_ := Aside0.mk ((by rw [hg]; exact (below_size zaj16) : w.heap.size ≤ gb985)); have n4_ := Aside0.mk ((by rw [hg]; exact (below_size zaj16) : w.heap.size ≤ gb985)); have n5_ := Aside0.mk ((by rw [hg]; exact Nat.ne_of_lt (blk_lt (g := gb984) (o := .cells #[.int .i64 a0_0, .int .i64 a0_1, .slice A0_2 l0_2.length c0_2] 30 (0, 0)) zaj5) : gb984 ≠ gb985)); have n6_ := Aside0.mk ((by rw [hg]; exact Nat.ne_of_gt (blk_lt (g := gb984) (o := .cells #[.int .i64 a0_0, .int .i64 a0_1, .slice A0_2 l0_2.length c0_2] 30 (0, 0)) zaj5) : gb985 ≠ gb984)); clear BK984; clear HB; have BK984 := n0_; have HB := n1_; have BK985 := n2_; have GW985 := n3_; have GE985 := n4_; have NB984_985 := n5_; have NB985_984 := n6_; clear n0_ n1_ n2_ n3_ n4_ n5_ n6_; clear hb hbox hg; have hnb9 := NB984_985.out; have hnc9 := NB985_984.out; have hcz10_0 : w8.cell? ⟨gb984, 0, none⟩ = some (.int .i64 a0_0) := (blk_cell BK984.out 0).trans rfl; have hcz10_1 : w8.cell? ⟨gb984, 1, none⟩ = some (.int .i64 a0_1) := (blk_cell BK984.out 1).trans rfl; have hcz10_2 : w8.cell? ⟨gb984, 2, none⟩ = some (.slice A0_2 l0_2.length c0_2) := (blk_cell BK984.out 2).trans rfl; have hfz10_0 := blk_frozen BK984.out 0; have hfz10_1 := blk_frozen BK984.out 1; have hfz10_2 := blk_frozen BK984.out 2) | ((with_reducible refine gate_dst (N := 17) rfl ?_); refine Kd.R_make Kd.bool _ 4 rfl (N := 17) rfl 92 _ _ rfl ji3 rfl rfl Try.underlying92 (.bool false) 1 info4 rfl (by decide) (by omega) false (ok := fun _ => True) (okp := fun _ => True) rfl (fun _ hk => hk) trivial (of_decide_eq_true zaj3) (Nat.le_trans (Nat.mul_le_mul_right _ (of_decide_eq_true zaj3 : ji3.toNat ≤ 281474976710656)) (by omega)) (Below.refl _ _) (Nat.le_refl _) ?_; intro v987 w11 ho12 hb hg_ hnew_; clear hg_ hnew_; (first | rw [← Ny986.out] at ho12 | (simp only [Int.reduceToNat] at ho12; rw [← Ny986.out] at ho12)); have n0_ := Aside0.mk (Kd.R_lower ho12 (below_size zaj1)); have n1_ := Aside0.mk (blk_below (g := gb984) (o := .cells #[.int .i64 a0_0, .int .i64 a0_1, .slice A0_2 l0_2.length c0_2] 30 (0, 0)) zaj5 hb); have n2_ := Aside0.mk (blk_below (g := gb985) (o := .cells #[.int .i64 a1_0, .int .i64 a1_1] 32 (0, 0)) zaj10 hb); have n3_ := Aside0.mk (below_step zaj1 hb); clear BK984; clear BK985; clear HB; have HO988 := n0_; have BK984 := n1_; have BK985 := n2_; have HB := n3_; clear n0_ n1_ n2_ n3_; clear hb ho12; have hcz13_0 : w11.cell? ⟨gb984, 0, none⟩ = some (.int .i64 a0_0) := (blk_cell BK984.out 0).trans rfl; have hcz13_1 : w11.cell? ⟨gb984, 1, none⟩ = some (.int .i64 a0_1) := (blk_cell BK984.out 1).trans rfl; have hcz13_2 : w11.cell? ⟨gb984, 2, none⟩ = some (.slice A0_2 l0_2.length c0_2) := (blk_cell BK984.out 2).trans rfl; have hfz13_0 := blk_frozen BK984.out 0; have hfz13_1 := blk_frozen BK984.out 1; have hfz13_2 := blk_frozen BK984.out 2) | ((with_reducible refine gate_callee (f := 74) rfl ?_); refine goesL_ (some 19) rfl rfl Try.func74 (by kernel_rfl) rfl #[.agg #[.int .i64 a0_0, .int .i64 a0_1, .slice A0_2 l0_2.length c0_2]] rfl zaj7 ?_; (with_reducible refine (spec_boCells.calls k a0_0 a0_1 _ _ l0_2 t989 _ ?side1 ?side2 A6.out).mono ?_); (case side1 => exact zaj6); (case side2 => exact HC0_2.out); rintro e w14 ⟨v990, rfl, ho0, hb⟩; refine ⟨_, rfl, ?_⟩; have n0_ := Aside0.mk (Kd.R_below (by (with_reducible repeat (first | apply Kd.R_alloc | apply Kd.R_drewN | apply Kd.R_drew)); exact HO988.out) hb); have n1_ := Aside0.mk (Kd.R_lower ho0 (below_size zaj1)); have n2_ := Aside0.mk (blk_below (g := gb984) (o := .cells #[.int .i64 a0_0, .int .i64 a0_1, .slice A0_2 l0_2.length c0_2] 30 (0, 0)) zaj5 hb); have n3_ := Aside0.mk (blk_below (g := gb985) (o := .cells #[.int .i64 a1_0, .int .i64 a1_1] 32 (0, 0)) zaj10 hb); have n4_ := Aside0.mk (below_step zaj1 hb); clear HO988; clear BK984; clear BK985; clear HB; have HO988 := n0_; have HO991 := n1_; have BK984 := n2_; have BK985 := n3_; have HB := n4_; clear n0_ n1_ n2_ n3_ n4_; (try clear hb); (try clear hb2); (try clear hk); (try clear hi); (try clear ho0); (try clear hna_); (try clear hnb_); obtain ⟨Ao15, co15, eo15⟩ := Kd.R_slice HO991.out; subst eo15))
 go_loopg [6, 21] k (fun kq v6 v21 w' => ∃ (x5_1 : List Bool) (x6_1 : List (List Int)) (x21_1 : Int), v21 = .int .i64 x21_1 ∧ Aside0 (spec_faParts.l0 kq x5_1 x6_1 t989 (t989.length : Int) x21_1 a0_0 a0_1 l0_2 a1_0 a1_1 = some r) ∧ Aside0 (kq ≤ k) ∧ Aside0 (Kd.R Kd.bool 4 w' w.heap.size (fun _ => True) v987 x5_1) ∧ Aside0 (Kd.S (Kd.slice 3 (Kd.int .i64)) 22 w' w.heap.size (fun k_ => some k_ ≠ ((.slice Ao15 t989.length co15) : Value).ownBlock) v6 x6_1) ∧ Aside0 (Kd.R (Kd.int .i64) 3 w' w.heap.size (fun _ => True) (.slice Ao15 t989.length co15) t989) ∧ Aside0 (w'.heap[gb984]? = some (.cells #[.int .i64 a0_0, .int .i64 a0_1, (.slice A0_2 l0_2.length c0_2)] 30 (0, 0))) ∧ Aside0 (w'.heap[gb985]? = some (.cells #[.int .i64 a1_0, .int .i64 a1_1] 32 (0, 0))) ∧ Aside0 (Below w.heap.size w w'))
 case atStart => exact ⟨(y986), (([] : List (List Int))), (0), zaj8, H', ⟨Nat.le_refl _⟩, ⟨by (with_reducible repeat (first | apply Kd.R_alloc | apply Kd.R_drewN | apply Kd.R_drew)); exact HO988.out⟩, ⟨by first | exact Kd.S_nil _ _ _ _ _ | exact Kd.N_nil _ _ _ _ _ | exact Kd.V_nil _ _ _ _ _ | exact Kd.Q_nil _ _ _ _ _ | exact Kd.R_nil _ _ _ _ _⟩, ⟨by (with_reducible repeat (first | apply Kd.R_alloc | apply Kd.R_drewN | apply Kd.R_drew)); exact HO991.out⟩, ⟨zaj5⟩, ⟨zaj10⟩, ⟨zaj1⟩⟩
 case round =>
  clear H'
  try clear p2; try clear c4; try clear c4b0; try clear c4b1; try clear c5; try clear c5b0; try clear c5b1; try clear p6; try clear c7; try clear c9; try clear hcz10_0; try clear hcz10_1; try clear hcz10_2; try clear hcz13_0; try clear hcz13_1; try clear hcz13_2; try clear hfz10_0; try clear hfz10_1; try clear hfz10_2; try clear hfz13_0; try clear hfz13_1; try clear hfz13_2
  obtain ⟨x5_1, x6_1, x21_1, rfl, HA, HK1, HO_5, HO_6, HO_19, BK984, BK985, HB⟩ := hrel
  cases gk with
  | zero => exact absurd HA.out (by simp [spec_faParts.l0])
  | succ k1 =>
   have H := HA.out
   clear HA
   simp only [spec_faParts.l0] at H
   by_cases c16 : x21_1 < (t989.length : Int)
   rotate_left
   ·rw [if_neg c16] at H
    have c16b0 : decide (x21_1 < (t989.length : Int)) = false := decide_eq_false c16
    clear c16
    obtain rfl := Option.some.inj H
    go_wp2
    go_ret
    exact ⟨_, by first | rfl | (simp [errW_none, errW_some] <;> rfl) | (simp only [← hji3]; first | rfl | (simp [errW_none, errW_some] <;> rfl)) | (simp [*, errW_none, errW_some] <;> rfl), by (with_reducible repeat (first | apply Kd.S_alloc | apply Kd.S_drewN | apply Kd.S_drew)); exact Kd.S_mono HO_6.out (fun _ hk => trivial), zaj1⟩
   rw [if_pos c16] at H
   have c16b0 : decide (x21_1 < (t989.length : Int)) = true := decide_eq_true c16
   clear c16
   by_cases c17 : 0 ≤ x21_1
   rotate_left
   ·rw [if_neg c17] at H
    exact absurd H (by simp)
   rw [if_pos c17] at H
   have c17b0 : decide (0 ≤ x21_1) = true := decide_eq_true c17
   clear c17
   by_cases c18 : x21_1 < (t989.length : Int)
   rotate_left
   ·rw [if_neg c18] at H
    exact absurd H (by simp)
   rw [if_pos c18] at H
   have c18b0 : decide (x21_1 < (t989.length : Int)) = true := decide_eq_true c18
   clear c18
   by_cases c19 : 0 ≤ (rd t989 x21_1)
   rotate_left
   ·rw [if_neg c19] at H
    exact absurd H (by simp)
   rw [if_pos c19] at H
   have c19b0 : decide (0 ≤ (rd t989 x21_1)) = true := decide_eq_true c19
   clear c19
   by_cases c20 : (rd t989 x21_1) < (x5_1.length : Int)
   rotate_left
   ·rw [if_neg c20] at H
    exact absurd H (by simp)
   rw [if_pos c20] at H
   have c20b0 : decide ((rd t989 x21_1) < (x5_1.length : Int)) = true := decide_eq_true c20
   clear c20
   obtain ⟨bq21, hbq21⟩ : ∃ b_ : Bool, b_ = (rdOf false x5_1 (rd t989 x21_1)) := ⟨_, rfl⟩
   replace H : (if bq21 = true then (spec_faParts.l0 k1 x5_1 x6_1 t989 (t989.length : Int) (wrap64 (x21_1 + 1)) a0_0 a0_1 l0_2 a1_0 a1_1) else ((spec_faFrom.f k1 a0_0 a0_1 l0_2 a1_0 a1_1 (rd t989 x21_1)).bind fun t994 => (spec_faParts.l1 k1 x5_1 x6_1 ([] : List Int) t989 (t989.length : Int) x21_1 t994 (t994.length : Int) 0 a0_0 a0_1 l0_2 a1_0 a1_1))) = some r := by rw [← hbq21] at H; exact H
   have Nbq21 := Aside0.mk hbq21
   clear hbq21
   by_cases c22 : bq21 = true
   ·subst c22
    have H1 : (spec_faParts.l0 k1 x5_1 x6_1 t989 (t989.length : Int) (wrap64 (x21_1 + 1)) a0_0 a0_1 l0_2 a1_0 a1_1) = some r := by rw [if_pos rfl] at H; exact H
    clear H
    have H := H1
    clear H1
    have H' := Aside0.mk H
    clear H
    have p992 : 0 ≤ (x21_1 : Int) := of_decide_eq_true zaj3
    have q992 : x21_1 < (t989.length : Int) := of_decide_eq_true zaj3
    obtain ⟨ad992, e992, hx992_0⟩ := Kd.at_int (Kd.R_reads' HO_19.out).2.2 x21_1 p992 q992
    cases e992
    replace p992 := eq_true p992
    replace q992 := eq_true q992
    obtain ⟨Ao23, co23, eo23⟩ := Kd.R_slice HO_5.out
    subst eo23
    have p993 : 0 ≤ ((rd t989 x21_1) : Int) := of_decide_eq_true zaj3
    have q993 : (rd t989 x21_1) < (x5_1.length : Int) := of_decide_eq_true zaj3
    obtain ⟨ad993, e993, hx993_0⟩ := Kd.at_bool (Kd.R_reads' HO_5.out).2.2 (rd t989 x21_1) p993 q993
    (try rw [← Nbq21.out] at hx993_0)
    cases e993
    replace p993 := eq_true p993
    replace q993 := eq_true q993
    go_wp2
    go_roundg k1
    case measure => have := HK1.out; omega
    case rel => exact ⟨(x5_1), (x6_1), (wrap64 (x21_1 + 1)), zaj8, H', ⟨by have := HK1.out; omega⟩, ⟨zaj14⟩, ⟨zaj13⟩, ⟨zaj12⟩, ⟨zaj5⟩, ⟨zaj10⟩, ⟨zaj1⟩⟩
   replace c22 := Bool.eq_false_iff.mpr c22
   subst c22
   have H1 : ((spec_faFrom.f k1 a0_0 a0_1 l0_2 a1_0 a1_1 (rd t989 x21_1)).bind fun t994 => (spec_faParts.l1 k1 x5_1 x6_1 ([] : List Int) t989 (t989.length : Int) x21_1 t994 (t994.length : Int) 0 a0_0 a0_1 l0_2 a1_0 a1_1)) = some r := by rw [if_neg (show ¬ (false = true) by decide)] at H; exact H
   clear H
   have H := H1
   clear H1
   replace H := Option.bind_eq_some_iff.mp H
   obtain ⟨t994, A240, H⟩ := H
   replace H : (spec_faParts.l1 k1 x5_1 x6_1 ([] : List Int) t989 (t989.length : Int) x21_1 t994 (t994.length : Int) 0 a0_0 a0_1 l0_2 a1_0 a1_1) = some r := H
   have A24 := Aside0.mk A240
   clear A240
   have H' := Aside0.mk H
   clear H
   have p992 : 0 ≤ (x21_1 : Int) := of_decide_eq_true zaj3
   have q992 : x21_1 < (t989.length : Int) := of_decide_eq_true zaj3
   obtain ⟨ad992, e992, hx992_0⟩ := Kd.at_int (Kd.R_reads' HO_19.out).2.2 x21_1 p992 q992
   cases e992
   replace p992 := eq_true p992
   replace q992 := eq_true q992
   obtain ⟨Ao25, co25, eo25⟩ := Kd.R_slice HO_5.out
   subst eo25
   have p993 : 0 ≤ ((rd t989 x21_1) : Int) := of_decide_eq_true zaj3
   have q993 : (rd t989 x21_1) < (x5_1.length : Int) := of_decide_eq_true zaj3
   obtain ⟨ad993, e993, hx993_0⟩ := Kd.at_bool (Kd.R_reads' HO_5.out).2.2 (rd t989 x21_1) p993 q993
   (try rw [← Nbq21.out] at hx993_0)
   cases e993
   replace p993 := eq_true p993
   replace q993 := eq_true q993
   have hnb26 := NB984_985.out
   have hnc26 := NB985_984.out
   have hcz27_0 : wr.cell? ⟨gb984, 0, none⟩ = some (.int .i64 a0_0) := (blk_cell BK984.out 0).trans rfl
   have hcz27_1 : wr.cell? ⟨gb984, 1, none⟩ = some (.int .i64 a0_1) := (blk_cell BK984.out 1).trans rfl
   have hcz27_2 : wr.cell? ⟨gb984, 2, none⟩ = some (.slice A0_2 l0_2.length c0_2) := (blk_cell BK984.out 2).trans rfl
   have hfz27_0 := blk_frozen BK984.out 0
   have hfz27_1 := blk_frozen BK984.out 1
   have hfz27_2 := blk_frozen BK984.out 2
   have hcz28_0 : wr.cell? ⟨gb985, 0, none⟩ = some (.int .i64 a1_0) := (blk_cell BK985.out 0).trans rfl
   have hcz28_1 : wr.cell? ⟨gb985, 1, none⟩ = some (.int .i64 a1_1) := (blk_cell BK985.out 1).trans rfl
   have hfz28_0 := blk_frozen BK985.out 0
   have hfz28_1 := blk_frozen BK985.out 1
   go_wp2_with (first | ((with_reducible refine gate_callee (f := 65) rfl ?_); refine goesL_ (some 32) rfl rfl Try.func65 (by kernel_rfl) rfl #[.agg #[.int .i64 a0_0, .int .i64 a0_1, .slice A0_2 l0_2.length c0_2], .agg #[.int .i64 a1_0, .int .i64 a1_1], .int .i64 (rd t989 x21_1)] rfl zaj7 ?_; (with_reducible refine (spec_faFrom.calls k1 a0_0 a0_1 _ _ l0_2 a1_0 a1_1 (rd t989 x21_1) t994 _ ?side1 ?side2 A24.out).mono ?_); (case side1 => exact zaj6); (case side2 => exact HC0_2.out); rintro e w29 ⟨v995, rfl, ho0, hb⟩; refine ⟨_, rfl, ?_⟩; have n0_ := Aside0.mk (Kd.R_below zaj14 hb); have n1_ := Aside0.mk (Kd.S_elder' zaj13 (Kd.R_base ho0) hb); have n2_ := Aside0.mk (Kd.R_elder' zaj12 (Kd.R_base ho0) hb); have n3_ := Aside0.mk (Kd.R_lower (Kd.R_new' ho0 (Kd.R_lt zaj12)) (below_size zaj1)); have n4_ := Aside0.mk (blk_below (g := gb984) (o := .cells #[.int .i64 a0_0, .int .i64 a0_1, .slice A0_2 l0_2.length c0_2] 30 (0, 0)) zaj5 hb); have n5_ := Aside0.mk (blk_below (g := gb985) (o := .cells #[.int .i64 a1_0, .int .i64 a1_1] 32 (0, 0)) zaj10 hb); have n6_ := Aside0.mk (below_step zaj1 hb); clear HO_5; clear HO_6; clear HO_19; clear BK984; clear BK985; clear HB; have HO_5 := n0_; have HO_6 := n1_; have HO_19 := n2_; have HO996 := n3_; have BK984 := n4_; have BK985 := n5_; have HB := n6_; clear n0_ n1_ n2_ n3_ n4_ n5_ n6_; (try clear hb); (try clear hb2); (try clear hk); (try clear hi); (try clear ho0); (try clear hna_); (try clear hnb_); obtain ⟨Ao30, co30, eo30⟩ := Kd.R_slice HO996.out; subst eo30))
   go_loopg [9, 34] k1 (fun kq v9 v34 w' => ∃ (x5_2 : List Bool) (x9_2 : List Int) (x34_2 : Int), v34 = .int .i64 x34_2 ∧ Aside0 (spec_faParts.l1 kq x5_2 x6_1 x9_2 t989 (t989.length : Int) x21_1 t994 (t994.length : Int) x34_2 a0_0 a0_1 l0_2 a1_0 a1_1 = some r) ∧ Aside0 (kq ≤ k1) ∧ Aside0 (Kd.R Kd.bool 4 w' w.heap.size (fun _ => True) (.slice (some ad993) x5_1.length co25) x5_2) ∧ Aside0 (Kd.S (Kd.slice 3 (Kd.int .i64)) 22 w' w.heap.size (fun k_ => some k_ ≠ (v9 : Value).ownBlock ∧ some k_ ≠ ((.slice (some ad992) t989.length co15) : Value).ownBlock ∧ some k_ ≠ ((.slice Ao30 t994.length co30) : Value).ownBlock) u6 x6_1) ∧ Aside0 (Kd.R (Kd.int .i64) 3 w' w.heap.size (fun k_ => some k_ ≠ ((.slice (some ad992) t989.length co15) : Value).ownBlock ∧ some k_ ≠ ((.slice Ao30 t994.length co30) : Value).ownBlock) v9 x9_2) ∧ Aside0 (Kd.R (Kd.int .i64) 3 w' w.heap.size (fun k_ => some k_ ≠ (v9 : Value).ownBlock ∧ some k_ ≠ ((.slice Ao30 t994.length co30) : Value).ownBlock) (.slice (some ad992) t989.length co15) t989) ∧ Aside0 (Kd.R (Kd.int .i64) 3 w' w.heap.size (fun k_ => some k_ ≠ (v9 : Value).ownBlock ∧ some k_ ≠ ((.slice (some ad992) t989.length co15) : Value).ownBlock) (.slice Ao30 t994.length co30) t994) ∧ Aside0 (w'.heap[gb984]? = some (.cells #[.int .i64 a0_0, .int .i64 a0_1, (.slice A0_2 l0_2.length c0_2)] 30 (0, 0))) ∧ Aside0 (w'.heap[gb985]? = some (.cells #[.int .i64 a1_0, .int .i64 a1_1] 32 (0, 0))) ∧ Aside0 (Below w.heap.size w w'))
   case atStart => exact ⟨(x5_1), (([] : List Int)), (0), zaj8, H', ⟨Nat.le_refl _⟩, ⟨zaj14⟩, ⟨by (with_reducible repeat (first | apply Kd.S_alloc | apply Kd.S_drewN | apply Kd.S_drew)); exact Kd.S_mono HO_6.out (fun _ hk => ⟨(by simp [Value.ownBlock]), ⟨hk.1, hk.2⟩⟩)⟩, ⟨by first | exact Kd.R_nil _ _ _ _ _ | exact Kd.N_nil _ _ _ _ _ | exact Kd.V_nil _ _ _ _ _ | exact Kd.Q_nil _ _ _ _ _ | exact Kd.S_nil _ _ _ _ _⟩, ⟨by (with_reducible repeat (first | apply Kd.R_alloc | apply Kd.R_drewN | apply Kd.R_drew)); exact Kd.R_mono HO_19.out (fun _ hk => ⟨(by simp [Value.ownBlock]), hk.2⟩)⟩, ⟨by (with_reducible repeat (first | apply Kd.R_alloc | apply Kd.R_drewN | apply Kd.R_drew)); exact Kd.R_mono HO996.out (fun _ hk => ⟨(by simp [Value.ownBlock]), hk.2⟩)⟩, ⟨zaj5⟩, ⟨zaj10⟩, ⟨zaj1⟩⟩
   case round =>
    clear H'
    try clear c1; try clear c2; try clear p2; try clear q2; try clear c4; try clear c4b0; try clear c4b1; try clear c5; try clear c5b0; try clear c5b1; try clear c6; try clear p6; try clear c7; try clear c9; try clear p9; try clear q9; try clear hx9; try clear c16; try clear c16b0; try clear c17; try clear c17b0; try clear c18; try clear c18b0; try clear c19; try clear c19b0; try clear c20; try clear c20b0; try clear q21; try clear c22; try clear c26; try clear hcz10_0; try clear hcz10_1; try clear hcz10_2; try clear hcz13_0; try clear hcz13_1; try clear hcz13_2; try clear hcz27_0; try clear hcz27_1
    try clear hcz27_2; try clear hcz28_0; try clear hcz28_1; try clear hfz10_0; try clear hfz10_1; try clear hfz10_2; try clear hfz13_0; try clear hfz13_1; try clear hfz13_2; try clear hfz27_0; try clear hfz27_1; try clear hfz27_2; try clear hfz28_0; try clear hfz28_1; try clear hx992_0; try clear hx993_0; try clear p2; try clear p6; try clear p992; try clear p993; try clear q992; try clear q993
    obtain ⟨x5_2, x9_2, x34_2, rfl, HA, HK2, HO_5, HO_6, HO_9, HO_19, HO_32, BK984, BK985, HB⟩ := hrel
    have hl5_2 := (Kd.R_reads' HO_5.out).1
    rw [hl5_2] at HO_5
    (try simp only [hl5_2])
    (try simp only [hl5_2] at BK984)
    (try simp only [hl5_2] at BK985)
    (try simp only [hl5_2] at HO_6)
    (try simp only [hl5_2] at HO_9)
    (try simp only [hl5_2] at HO_19)
    (try simp only [hl5_2] at HO_32)
    cases gk with
    | zero => exact absurd HA.out (by simp [spec_faParts.l1])
    | succ k2 =>
     have H := HA.out
     clear HA
     simp only [spec_faParts.l1] at H
     by_cases c31 : x34_2 < (t994.length : Int)
     rotate_left
     ·rw [if_neg c31] at H
      have c31b0 : decide (x34_2 < (t994.length : Int)) = false := decide_eq_false c31
      have c31b8 := c31b0
      (try simp only [hl5_2] at c31b8)
      clear c31
      by_cases c41 : x6_1.length < 5864062014805
      rotate_left
      ·rw [if_neg c41] at H
       exact absurd H (by simp)
      rw [if_pos c41] at H
      have LMc41 := Aside0.mk c41
      clear c41
      obtain ⟨y1002, hy1002⟩ : ∃ y_ : List (List Int), y_ = (x6_1 ++ [x9_2]) := ⟨_, rfl⟩
      replace H : (spec_faParts.l0 k2 x5_2 y1002 t989 (t989.length : Int) (wrap64 (x21_1 + 1)) a0_0 a0_1 l0_2 a1_0 a1_1) = some r := by first | (rw [hy1002]; with_reducible exact H) | (have H2_ := (Option.bind_some _ _).symm.trans H; rw [hy1002]; with_reducible exact H2_) | (have H2_ := (Option.bind_some _ _).symm.trans H; with_reducible exact H2_) | with_reducible exact H | (rw [hy1002]; exact H) | exact H
      have Ny1002 := Aside0.mk hy1002
      clear hy1002
      have H' := Aside0.mk H
      clear H
      obtain ⟨Ao43, co43, eo43⟩ := Kd.R_slice HO_9.out
      subst eo43
      go_wp2_with (first | ((with_reducible refine gate_builtin (b := .append) (xs := #[.tmp 49, .tmp 51]) rfl ?_); at_builtin; refine Kd.S_append (Kd.slice 3 (Kd.int .i64)) (w0 := w) w.heap.size rfl (.tmp 49) (.tmp 51) 69 22 (.slice none 0 0) 24 rfl Try.underlying69 info22 rfl (by decide) (by omega) u6 x6_1 x9_2 [.slice Ao43 x9_2.length co43] (fun k_ => some k_ ≠ (.slice (some ad992) t989.length co15 : Value).ownBlock ∧ some k_ ≠ (.slice Ao30 t994.length co30 : Value).ownBlock) (fun k_ => some k_ = (.slice Ao43 x9_2.length co43 : Value).ownBlock) rfl rfl ?aP (fun k_ hk_ => ((Kd.R_mono (ok' := fun k_ => ((fun k_ => some k_ ≠ (.slice (some ad992) t989.length co15 : Value).ownBlock ∧ some k_ ≠ (.slice Ao30 t994.length co30 : Value).ownBlock)) k_ ∧ some k_ ≠ (u6 : Value).ownBlock) (Kd.R_apart' (HO_9.out) (Kd.S_typed HO_6.out) (by decide)) (fun k_ hk => ⟨⟨hk.1.1, hk.1.2⟩, hk.2⟩))).1 k_ hk_.symm) ?aF ?aO ?aB ?aS ?aL ?_; (case aP => exact Kd.M_row (Kd.R_mono (Kd.R_tight rfl (Kd.R_mono (ok' := fun k_ => ((fun k_ => some k_ ≠ (.slice (some ad992) t989.length co15 : Value).ownBlock ∧ some k_ ≠ (.slice Ao30 t994.length co30 : Value).ownBlock)) k_ ∧ some k_ ≠ (u6 : Value).ownBlock) (Kd.R_apart' (HO_9.out) (Kd.S_typed HO_6.out) (by decide)) (fun k_ hk => ⟨⟨hk.1.1, hk.1.2⟩, hk.2⟩))) (fun _ h_ => h_))); (case aB => exact zaj1); (case aF => exact (fun k_ hk => ⟨Kd.fresh' (Kd.R_lt zaj12) k_ hk, Kd.fresh' (Kd.R_lt zaj17) k_ hk⟩)); (case aO => exact (by (with_reducible repeat (first | apply Kd.S_alloc | apply Kd.S_drewN | apply Kd.S_drew)); exact Kd.S_mono HO_6.out (fun k_ hk => ⟨⟨hk.2.1, hk.2.2⟩, fun e_ => hk.1 e_⟩))); (case aS => exact (below_size zaj1)); (case aL => have := LMc41.out; omega); intro v1003 w42 ho hb hg hat; rw [← Ny1002.out] at ho; have n0_ := Aside0.mk (Kd.R_over' zaj14 (Kd.S_typed zaj13) (by decide) hg); have n1_ := Aside0.mk (Kd.R_over' zaj12 (Kd.S_typed zaj13) (by decide) hg); have n2_ := Aside0.mk (Kd.R_over' zaj17 (Kd.S_typed zaj13) (by decide) hg); have n3_ := Aside0.mk (blk_grown (g := gb984) (o := .cells #[.int .i64 a0_0, .int .i64 a0_1, .slice A0_2 l0_2.length c0_2] 30 (0, 0)) zaj5 hg (Kd.S_ne HO_6.out BK984.out (by decide))); have n4_ := Aside0.mk (blk_grown (g := gb985) (o := .cells #[.int .i64 a1_0, .int .i64 a1_1] 32 (0, 0)) zaj10 hg (Kd.S_ne HO_6.out BK985.out (by decide))); have n5_ := Aside0.mk (hb); have n6_ := Aside0.mk (ho); clear HO_5; clear HO_19; clear HO_32; clear BK984; clear BK985; clear HB; clear HO_6; clear HO_9; have HO_5 := n0_; have HO_19 := n1_; have HO_32 := n2_; have BK984 := n3_; have BK985 := n4_; have HB := n5_; have HO1004 := n6_; clear n0_ n1_ n2_ n3_ n4_ n5_ n6_; clear ho hb hg hat))
      (try simp only [← hl5_2])
      go_roundg k2
      case measure => have := HK1.out; have := HK2.out; omega
      case rel => exact ⟨(x5_2), (y1002), (wrap64 (x21_1 + 1)), zaj8, H', ⟨by have := HK1.out; have := HK2.out; omega⟩, ⟨zaj21⟩, ⟨by (try simp only [hl5_2]); (with_reducible repeat (first | apply Kd.S_alloc | apply Kd.S_drewN | apply Kd.S_drew)); exact Kd.S_mono HO1004.out (fun _ hk => hk.1)⟩, ⟨by (try simp only [hl5_2]); (with_reducible repeat (first | apply Kd.R_alloc | apply Kd.R_drewN | apply Kd.R_drew)); exact Kd.R_mono HO_19.out (fun _ hk => trivial)⟩, ⟨zaj19⟩, ⟨zaj18⟩, ⟨zaj1⟩⟩
     rw [if_pos c31] at H
     have c31b0 : decide (x34_2 < (t994.length : Int)) = true := decide_eq_true c31
     have c31b8 := c31b0
     (try simp only [hl5_2] at c31b8)
     clear c31
     by_cases c32 : 0 ≤ x34_2
     rotate_left
     ·rw [if_neg c32] at H
      exact absurd H (by simp)
     rw [if_pos c32] at H
     have c32b0 : decide (0 ≤ x34_2) = true := decide_eq_true c32
     clear c32
     by_cases c33 : x34_2 < (t994.length : Int)
     rotate_left
     ·rw [if_neg c33] at H
      exact absurd H (by simp)
     rw [if_pos c33] at H
     have c33b0 : decide (x34_2 < (t994.length : Int)) = true := decide_eq_true c33
     have c33b8 := c33b0
     (try simp only [hl5_2] at c33b8)
     clear c33
     by_cases c34 : (rd t994 x34_2) ≥ 0
     rotate_left
     ·rw [if_neg c34] at H
      have c34b0 : decide (0 ≤ (rd t994 x34_2)) = false := decide_eq_false c34
      clear c34
      have H' := Aside0.mk H
      clear H
      have p997 : 0 ≤ (x34_2 : Int) := of_decide_eq_true zaj3
      have q997 : x34_2 < (t994.length : Int) := of_decide_eq_true zaj3
      obtain ⟨ad997, e997, hx997_0⟩ := Kd.at_int (Kd.R_reads' HO_32.out).2.2 x34_2 p997 q997
      cases e997
      replace p997 := eq_true p997
      replace q997 := eq_true q997
      go_wp2
      (try simp only [← hl5_2])
      go_roundg k2
      case measure => have := HK1.out; have := HK2.out; omega
      case rel => exact ⟨(x5_2), (x9_2), (wrap64 (x34_2 + 1)), zaj8, H', ⟨by have := HK1.out; have := HK2.out; omega⟩, ⟨zaj21⟩, ⟨by (try simp only [hl5_2]); (with_reducible repeat (first | apply Kd.S_alloc | apply Kd.S_drewN | apply Kd.S_drew)); exact HO_6.out⟩, ⟨by (try simp only [hl5_2]); (with_reducible repeat (first | apply Kd.R_alloc | apply Kd.R_drewN | apply Kd.R_drew)); exact HO_9.out⟩, ⟨by (try simp only [hl5_2]); (with_reducible repeat (first | apply Kd.R_alloc | apply Kd.R_drewN | apply Kd.R_drew)); exact HO_19.out⟩, ⟨by (try simp only [hl5_2]); (with_reducible repeat (first | apply Kd.R_alloc | apply Kd.R_drewN | apply Kd.R_drew)); exact HO_32.out⟩, ⟨zaj19⟩, ⟨zaj18⟩, ⟨zaj1⟩⟩
     rw [if_pos c34] at H
     have c34b0 : decide (0 ≤ (rd t994 x34_2)) = true := decide_eq_true c34
     clear c34
     by_cases c35 : x9_2.length < 17592186044416
     rotate_left
     ·rw [if_neg c35] at H
      exact absurd H (by simp)
     rw [if_pos c35] at H
     have LMc35 := Aside0.mk c35
     clear c35
     obtain ⟨y998, hy998⟩ : ∃ y_ : List Int, y_ = (x9_2 ++ [x34_2]) := ⟨_, rfl⟩
     replace H : (if x34_2 < (x5_2.length : Int) then (spec_faParts.l1 k2 (x5_2.set (x34_2 : Int).toNat true) x6_1 y998 t989 (t989.length : Int) x21_1 t994 (t994.length : Int) (wrap64 (x34_2 + 1)) a0_0 a0_1 l0_2 a1_0 a1_1) else (none)) = some r := by first | (rw [hy998]; with_reducible exact H) | (have H2_ := (Option.bind_some _ _).symm.trans H; rw [hy998]; with_reducible exact H2_) | (have H2_ := (Option.bind_some _ _).symm.trans H; with_reducible exact H2_) | with_reducible exact H | (rw [hy998]; exact H) | exact H
     have Ny998 := Aside0.mk hy998
     clear hy998
     by_cases c36 : x34_2 < (x5_2.length : Int)
     rotate_left
     ·rw [if_neg c36] at H
      exact absurd H (by simp)
     rw [if_pos c36] at H
     have c36b0 : decide (x34_2 < (x5_2.length : Int)) = true := decide_eq_true c36
     have c36b8 := c36b0
     (try simp only [hl5_2] at c36b8)
     clear c36
     obtain ⟨y1001, hy1001⟩ : ∃ y_ : List Bool, y_ = (x5_2.set (x34_2 : Int).toNat true) := ⟨_, rfl⟩
     replace H : (spec_faParts.l1 k2 y1001 x6_1 y998 t989 (t989.length : Int) x21_1 t994 (t994.length : Int) (wrap64 (x34_2 + 1)) a0_0 a0_1 l0_2 a1_0 a1_1) = some r := by first | (rw [hy1001]; with_reducible exact H) | (have H2_ := (Option.bind_some _ _).symm.trans H; rw [hy1001]; with_reducible exact H2_) | (have H2_ := (Option.bind_some _ _).symm.trans H; with_reducible exact H2_) | with_reducible exact H | (rw [hy1001]; exact H) | exact H
     have Ny1001 := Aside0.mk hy1001
     clear hy1001
     have H' := Aside0.mk H
     clear H
     have p997 : 0 ≤ (x34_2 : Int) := of_decide_eq_true zaj3
     have q997 : x34_2 < (t994.length : Int) := of_decide_eq_true zaj3
     obtain ⟨ad997, e997, hx997_0⟩ := Kd.at_int (Kd.R_reads' HO_32.out).2.2 x34_2 p997 q997
     cases e997
     replace p997 := eq_true p997
     replace q997 := eq_true q997
     go_wp2_with (first | ((with_reducible refine gate_builtin (b := .append) (xs := #[.tmp 41, .tmp 43]) rfl ?_); at_builtin; refine Kd.R_append (Kd.int .i64) (w0 := w) w.heap.size rfl (.tmp 41) (.tmp 43) 22 3 (.int .i64 0) 8 rfl Try.underlying22 info3 rfl (by decide) (by omega) u9 x9_2 x34_2 [.int .i64 x34_2] (fun k_ => some k_ ≠ (.slice (some ad992) t989.length co15 : Value).ownBlock ∧ some k_ ≠ (.slice (some ad997) t994.length co30 : Value).ownBlock) (fun _ => False) rfl rfl ?aP (fun _ hk => hk.elim) ?aF ?aO ?aB ?aS ?aL ?_; (case aP => exact rfl); (case aB => exact zaj1); (case aF => exact (fun k_ hk => ⟨Kd.fresh' (Kd.R_lt zaj12) k_ hk, Kd.fresh' (Kd.R_lt zaj17) k_ hk⟩)); (case aO => exact (by (with_reducible repeat (first | apply Kd.R_alloc | apply Kd.R_drewN | apply Kd.R_drew)); exact HO_9.out)); (case aS => exact (below_size zaj1)); (case aL => have := LMc35.out; omega); intro v999 w38 ho hb hg hat; rw [← Ny998.out] at ho; have n0_ := Aside0.mk (Kd.R_over' zaj14 (Kd.R_typed (by (with_reducible repeat (first | apply Kd.R_alloc | apply Kd.R_drewN | apply Kd.R_drew)); exact HO_9.out)) (by decide) hg); have n1_ := Aside0.mk (Kd.S_after (ok := (fun k_ => some k_ ≠ (.slice (some ad992) t989.length co15 : Value).ownBlock ∧ some k_ ≠ (.slice (some ad997) t994.length co30 : Value).ownBlock)) (by (with_reducible repeat (first | apply Kd.S_alloc | apply Kd.S_drewN | apply Kd.S_drew)); exact Kd.S_mono HO_6.out (fun _ hk => ⟨⟨hk.2.1, hk.2.2⟩, hk.1⟩)) hg hat); have n2_ := Aside0.mk (Kd.R_after (ok := (fun k_ => some k_ ≠ (.slice (some ad997) t994.length co30 : Value).ownBlock)) (by (with_reducible repeat (first | apply Kd.R_alloc | apply Kd.R_drewN | apply Kd.R_drew)); exact Kd.R_mono HO_19.out (fun _ hk => ⟨hk.2, hk.1⟩)) hg hat); have n3_ := Aside0.mk (Kd.R_after (ok := (fun k_ => some k_ ≠ (.slice (some ad992) t989.length co15 : Value).ownBlock)) (by (with_reducible repeat (first | apply Kd.R_alloc | apply Kd.R_drewN | apply Kd.R_drew)); exact Kd.R_mono HO_32.out (fun _ hk => ⟨hk.2, hk.1⟩)) hg hat); have n4_ := Aside0.mk (blk_grown (g := gb984) (o := .cells #[.int .i64 a0_0, .int .i64 a0_1, .slice A0_2 l0_2.length c0_2] 30 (0, 0)) zaj5 hg (Kd.R_ne HO_9.out BK984.out (by decide))); have n5_ := Aside0.mk (blk_grown (g := gb985) (o := .cells #[.int .i64 a1_0, .int .i64 a1_1] 32 (0, 0)) zaj10 hg (Kd.R_ne HO_9.out BK985.out (by decide))); have n6_ := Aside0.mk (hb); have n7_ := Aside0.mk (ho); clear HO_5; clear HO_6; clear HO_19; clear HO_32; clear BK984; clear BK985; clear HB; clear HO_9; have HO_5 := n0_; have HO_6 := n1_; have HO_19 := n2_; have HO_32 := n3_; have BK984 := n4_; have BK985 := n5_; have HB := n6_; have HO1000 := n7_; clear n0_ n1_ n2_ n3_ n4_ n5_ n6_ n7_; clear ho hb hg hat; have p37 : 0 ≤ (x34_2 : Int) := of_decide_eq_true zaj3; have q37 : (x34_2 : Int) < ((x5_2.length : Int) : Int) := of_decide_eq_true zaj3; obtain ⟨go37, co37, eo37, gb37, gl37, cl37, HG37⟩ := Kd.R_form HO_5.out (by omega); (first | cases eo37 | (injection eo37 with ea_ en_ ec_; (first | subst ea_ | (injection ea_ with ea_; subst ea_)); subst ec_; clear en_)); have GB37 := Aside0.mk gb37; have GG37 := Aside0.mk HG37; clear gb37 gl37 HG37; (try simp only [add_plain] at *); (first | simp only [add_plain] at hx993_0 | skip); obtain ⟨hx37_0, hf37_0⟩ := Kd.R_celln false HO_5.out (x34_2 : Int) p37 q37; replace p37 := eq_true p37; replace q37 := eq_true q37; obtain ⟨hy39_, hz39_⟩ := Kd.R_celln false HO_5.out (x34_2 : Int) (of_decide_eq_true zaj3) (of_decide_eq_true zaj3); have HP39 := Kd.R_putg HO_5.out (x34_2 : Int) true) | ((with_reducible refine gate_store (t := 4) (p := 47) rfl ?_); refine store_event (t := 4) (p := 47) (v := ?vo_w40) (w1 := (w38.setCell ⟨go37, (x34_2 : Int).toNat, none⟩ (.bool true))) ?hg ?ho ?hn ?hr ?_; (case ho => rfl); (case hg => rfl); (case hn => rfl); (case hr => first | (go_simp; done) | (go_simp; rfl)); intro w40 hw; have hg : w38.grownBy w40 (some go37) := (by rw [hw]; exact HP39.2); have hp_ : Kd.R Kd.bool 4 w40 w.heap.size (fun _ => True) (.slice (some ⟨go37, 0, none⟩) x5_2.length co25) y1001 := (by rw [hw, Ny1001.out]; exact HP39.1); clear HP39; have n0_ := Aside0.mk (hp_); have n1_ := Aside0.mk (Kd.S_over' (v := (.slice (some ⟨go37, 0, none⟩) x5_2.length co25)) zaj13 (Kd.R_typed HO_5.out) (by decide) hg); have n2_ := Aside0.mk (Kd.R_over' (v := (.slice (some ⟨go37, 0, none⟩) x5_2.length co25)) zaj12 (Kd.R_typed HO_5.out) (by decide) hg); have n3_ := Aside0.mk (Kd.R_over' (v := (.slice (some ⟨go37, 0, none⟩) x5_2.length co25)) zaj17 (Kd.R_typed HO_5.out) (by decide) hg); have n4_ := Aside0.mk (blk_grown (g := gb984) (o := .cells #[.int .i64 a0_0, .int .i64 a0_1, .slice A0_2 l0_2.length c0_2] 30 (0, 0)) zaj5 hg (Kd.R_ne HO_5.out BK984.out (by decide))); have n5_ := Aside0.mk (blk_grown (g := gb985) (o := .cells #[.int .i64 a1_0, .int .i64 a1_1] 32 (0, 0)) zaj10 hg (Kd.R_ne HO_5.out BK985.out (by decide))); have n6_ := Aside0.mk (Kd.R_over' (v := (.slice (some ⟨go37, 0, none⟩) x5_2.length co25)) (by (with_reducible repeat (first | apply Kd.R_alloc | apply Kd.R_drewN | apply Kd.R_drew)); exact HO1000.out) (Kd.R_typed HO_5.out) (by decide) hg); have n7_ := Aside0.mk ((by rw [hw]; exact below_set (HB.out) GB37.out : Below w.heap.size w w40)); clear HO_5; clear HO_6; clear HO_19; clear HO_32; clear BK984; clear BK985; clear HO1000; clear HB; have HO_5 := n0_; have HO_6 := n1_; have HO_19 := n2_; have HO_32 := n3_; have BK984 := n4_; have BK985 := n5_; have HO1000 := n6_; have HB := n7_; clear n0_ n1_ n2_ n3_ n4_ n5_ n6_ n7_; clear hg hw hp_))
     (try simp only [← hl5_2])
     go_roundg k2
     case measure => have := HK1.out; have := HK2.out; omega
     case rel => exact ⟨(y1001), (y998), (wrap64 (x34_2 + 1)), zaj8, H', ⟨by have := HK1.out; have := HK2.out; omega⟩, ⟨zaj21⟩, ⟨by (try simp only [hl5_2]); (with_reducible repeat (first | apply Kd.S_alloc | apply Kd.S_drewN | apply Kd.S_drew)); exact Kd.S_mono HO_6.out (fun _ hk => ⟨hk.2, ⟨hk.1.1, hk.1.2⟩⟩)⟩, ⟨by (try simp only [hl5_2]); (with_reducible repeat (first | apply Kd.R_alloc | apply Kd.R_drewN | apply Kd.R_drew)); exact HO1000.out⟩, ⟨by (try simp only [hl5_2]); (with_reducible repeat (first | apply Kd.R_alloc | apply Kd.R_drewN | apply Kd.R_drew)); exact Kd.R_mono HO_19.out (fun _ hk => ⟨hk.2, hk.1⟩)⟩, ⟨by (try simp only [hl5_2]); (with_reducible repeat (first | apply Kd.R_alloc | apply Kd.R_drewN | apply Kd.R_drew)); exact Kd.R_mono HO_32.out (fun _ hk => ⟨hk.2, hk.1⟩)⟩, ⟨zaj19⟩, ⟨zaj18⟩, ⟨zaj1⟩⟩

/-! ### spec_faMost: function 75 -/
def spec_faMost.l0 : Nat → List Int → Int → List Int → Int → Int → Option (Int × Int)
 | 0, _, _, _, _, _ => none
 | k + 1, x0, x4, x7, x8, x9 => if x9 < x8 then (if 0 ≤ x9 then (if x9 < (x7.length : Int) then (if (rd x7 x9) ≥ 0 then (if x4 < 0 then (spec_faMost.l0 k x0 x9 x7 x8 (wrap64 (x9 + 1))) else (if 0 ≤ x4 then (if x4 < (x0.length : Int) then (if (rd x7 x9) > (rd x0 x4) then (spec_faMost.l0 k x0 x9 x7 x8 (wrap64 (x9 + 1))) else (spec_faMost.l0 k x0 x4 x7 x8 (wrap64 (x9 + 1)))) else (none)) else (none))) else (spec_faMost.l0 k x0 x4 x7 x8 (wrap64 (x9 + 1)))) else (none)) else (none)) else (if 0 ≤ x4 then (if x4 < (x0.length : Int) then (some (x4, rd x0 x4)) else (none)) else (none))
def spec_faMost.f (k : Nat) (l0 : List Int) : Option (Int × Int) := spec_faMost.l0 k l0 (-1) l0 (l0.length : Int) 0
set_option maxHeartbeats 8000000 in
set_option maxRecDepth 100000 in
theorem spec_faMost.calls (k : Nat) (A0 : Option Addr) (c0 : Nat) (l0 : List Int) (r1 : Int) (r2 : Int) (w : World) (hr0 : Kd.C (Kd.int .i64) w A0 l0.length l0) (hc0 : l0.length ≤ c0) (h : spec_faMost.f k l0 = some (r1, r2)) :
  Calls Try.prog 75 #[.slice A0 l0.length c0] w fun e w' => e = .returned (.tuple #[.int .i64 r1, .int .i64 r2]) ∧ Drawn0 w w' := by
 have HR0 := Aside0.mk hr0
 have HC0 := Aside0.mk hc0
 clear hr0 hc0
 have H : (spec_faMost.l0 k l0 (-1) l0 (l0.length : Int) 0) = some (r1, r2) := h
 clear h
 have H' := Aside0.mk H
 clear H
 go_enter Try.func75, Try.ntmps75
 go_wp2
 repeat ((first | go_quiet (fail) | (refine wp_region_quiet_lit (by kernel_rfl) (by kernel_rfl) ?_; (repeat (any_goals (first | go_big_quiet_step (fail) | quiet_step (fail)))); all_goals (refine wpQuiet_nil ?_; intro _ hw2_; obtain ⟨nq, hw3_⟩ := hw2_; subst hw3_))); try go_wp2)
 go_loopg [4, 9] k (fun kq v4 v9 w' => ∃ (x4_1 : Int) (x9_1 : Int), v4 = .int .i64 x4_1 ∧ v9 = .int .i64 x9_1 ∧ Aside0 (spec_faMost.l0 kq l0 x4_1 l0 (l0.length : Int) x9_1 = some (r1, r2)) ∧ Aside0 (kq ≤ k) ∧ Drawn0 w w')
 case atStart => exact ⟨((-1)), (0), zaj8, zaj8, H', ⟨Nat.le_refl _⟩, zaj20⟩
 case round =>
  clear H'
  obtain ⟨x4_1, x9_1, rfl, rfl, HA, HK1, ⟨m1, rfl⟩⟩ := hrel
  cases gk with
  | zero => exact absurd HA.out (by simp [spec_faMost.l0])
  | succ k1 =>
   have H := HA.out
   clear HA
   simp only [spec_faMost.l0] at H
   by_cases c2 : x9_1 < (l0.length : Int)
   rotate_left
   ·rw [if_neg c2] at H
    have c2b0 : decide (x9_1 < (l0.length : Int)) = false := decide_eq_false c2
    clear c2
    by_cases c10 : 0 ≤ x4_1
    rotate_left
    ·rw [if_neg c10] at H
     exact absurd H (by simp)
    rw [if_pos c10] at H
    have c10b0 : decide (0 ≤ x4_1) = true := decide_eq_true c10
    clear c10
    by_cases c11 : x4_1 < (l0.length : Int)
    rotate_left
    ·rw [if_neg c11] at H
     exact absurd H (by simp)
    rw [if_pos c11] at H
    have c11b0 : decide (x4_1 < (l0.length : Int)) = true := decide_eq_true c11
    clear c11
    simp only [Option.some.injEq, Prod.mk.injEq] at H
    obtain ⟨rfl, rfl⟩ := H
    have p1007 : 0 ≤ (x4_1 : Int) := of_decide_eq_true zaj3
    have q1007 : x4_1 < (l0.length : Int) := of_decide_eq_true zaj3
    obtain ⟨ad1007, e1007, hx1007_0⟩ := Kd.at_int HR0.out x4_1 p1007 q1007
    cases e1007
    replace p1007 := eq_true p1007
    replace q1007 := eq_true q1007
    go_wp2
    repeat ((first | go_quiet (fail) | (refine wp_region_quiet_lit (by kernel_rfl) (by kernel_rfl) ?_; (repeat (any_goals (first | go_big_quiet_step (fail) | quiet_step (fail)))); all_goals (refine wpQuiet_nil ?_; intro _ hw2_; obtain ⟨nq, hw3_⟩ := hw2_; subst hw3_))); try go_wp2)
    go_ret2
    exact ⟨zaj8, zaj20⟩
   rw [if_pos c2] at H
   have c2b0 : decide (x9_1 < (l0.length : Int)) = true := decide_eq_true c2
   clear c2
   by_cases c3 : 0 ≤ x9_1
   rotate_left
   ·rw [if_neg c3] at H
    exact absurd H (by simp)
   rw [if_pos c3] at H
   have c3b0 : decide (0 ≤ x9_1) = true := decide_eq_true c3
   clear c3
   by_cases c4 : x9_1 < (l0.length : Int)
   rotate_left
   ·rw [if_neg c4] at H
    exact absurd H (by simp)
   rw [if_pos c4] at H
   have c4b0 : decide (x9_1 < (l0.length : Int)) = true := decide_eq_true c4
   clear c4
   by_cases c5 : (rd l0 x9_1) ≥ 0
   rotate_left
   ·rw [if_neg c5] at H
    have c5b0 : decide (0 ≤ (rd l0 x9_1)) = false := decide_eq_false c5
    clear c5
    have H' := Aside0.mk H
    clear H
    have p1005 : 0 ≤ (x9_1 : Int) := of_decide_eq_true zaj3
    have q1005 : x9_1 < (l0.length : Int) := of_decide_eq_true zaj3
    obtain ⟨ad1005, e1005, hx1005_0⟩ := Kd.at_int HR0.out x9_1 p1005 q1005
    cases e1005
    replace p1005 := eq_true p1005
    replace q1005 := eq_true q1005
    go_wp2
    repeat ((first | go_quiet (fail) | (refine wp_region_quiet_lit (by kernel_rfl) (by kernel_rfl) ?_; (repeat (any_goals (first | go_big_quiet_step (fail) | quiet_step (fail)))); all_goals (refine wpQuiet_nil ?_; intro _ hw2_; obtain ⟨nq, hw3_⟩ := hw2_; subst hw3_))); try go_wp2)
    go_roundg k1
    case measure => have := HK1.out; omega
    case rel => exact ⟨(x4_1), (wrap64 (x9_1 + 1)), zaj8, zaj8, H', ⟨by have := HK1.out; omega⟩, zaj20⟩
   rw [if_pos c5] at H
   have c5b0 : decide (0 ≤ (rd l0 x9_1)) = true := decide_eq_true c5
   clear c5
   by_cases c6 : x4_1 < 0
   ·rw [if_pos c6] at H
    have c6b0 : decide (x4_1 < 0) = true := decide_eq_true c6
    clear c6
    have H' := Aside0.mk H
    clear H
    have p1005 : 0 ≤ (x9_1 : Int) := of_decide_eq_true zaj3
    have q1005 : x9_1 < (l0.length : Int) := of_decide_eq_true zaj3
    obtain ⟨ad1005, e1005, hx1005_0⟩ := Kd.at_int HR0.out x9_1 p1005 q1005
    cases e1005
    replace p1005 := eq_true p1005
    replace q1005 := eq_true q1005
    go_wp2
    repeat ((first | go_quiet (fail) | (refine wp_region_quiet_lit (by kernel_rfl) (by kernel_rfl) ?_; (repeat (any_goals (first | go_big_quiet_step (fail) | quiet_step (fail)))); all_goals (refine wpQuiet_nil ?_; intro _ hw2_; obtain ⟨nq, hw3_⟩ := hw2_; subst hw3_))); try go_wp2)
    go_roundg k1
    case measure => have := HK1.out; omega
    case rel => exact ⟨(x9_1), (wrap64 (x9_1 + 1)), zaj8, zaj8, H', ⟨by have := HK1.out; omega⟩, zaj20⟩
   rw [if_neg c6] at H
   have c6b0 : decide (x4_1 < 0) = false := decide_eq_false c6
   clear c6
   by_cases c7 : 0 ≤ x4_1
   rotate_left
   ·rw [if_neg c7] at H
    exact absurd H (by simp)
   rw [if_pos c7] at H
   have c7b0 : decide (0 ≤ x4_1) = true := decide_eq_true c7
   clear c7
   by_cases c8 : x4_1 < (l0.length : Int)
   rotate_left
   ·rw [if_neg c8] at H
    exact absurd H (by simp)
   rw [if_pos c8] at H
   have c8b0 : decide (x4_1 < (l0.length : Int)) = true := decide_eq_true c8
   clear c8
   by_cases c9 : (rd l0 x9_1) > (rd l0 x4_1)
   ·rw [if_pos c9] at H
    have c9b0 : decide ((rd l0 x4_1) < (rd l0 x9_1)) = true := decide_eq_true c9
    clear c9
    have H' := Aside0.mk H
    clear H
    have p1005 : 0 ≤ (x9_1 : Int) := of_decide_eq_true zaj3
    have q1005 : x9_1 < (l0.length : Int) := of_decide_eq_true zaj3
    obtain ⟨ad1005, e1005, hx1005_0⟩ := Kd.at_int HR0.out x9_1 p1005 q1005
    cases e1005
    replace p1005 := eq_true p1005
    replace q1005 := eq_true q1005
    have p1006 : 0 ≤ (x4_1 : Int) := of_decide_eq_true zaj3
    have q1006 : x4_1 < (l0.length : Int) := of_decide_eq_true zaj3
    obtain ⟨ad1006, e1006, hx1006_0⟩ := Kd.at_int HR0.out x4_1 p1006 q1006
    obtain rfl : ad1005 = ad1006 := (by injection e1006)
    replace p1006 := eq_true p1006
    replace q1006 := eq_true q1006
    go_wp2
    repeat ((first | go_quiet (fail) | (refine wp_region_quiet_lit (by kernel_rfl) (by kernel_rfl) ?_; (repeat (any_goals (first | go_big_quiet_step (fail) | quiet_step (fail)))); all_goals (refine wpQuiet_nil ?_; intro _ hw2_; obtain ⟨nq, hw3_⟩ := hw2_; subst hw3_))); try go_wp2)
    go_roundg k1
    case measure => have := HK1.out; omega
    case rel => exact ⟨(x9_1), (wrap64 (x9_1 + 1)), zaj8, zaj8, H', ⟨by have := HK1.out; omega⟩, zaj20⟩
   rw [if_neg c9] at H
   have c9b0 : decide ((rd l0 x4_1) < (rd l0 x9_1)) = false := decide_eq_false c9
   clear c9
   have H' := Aside0.mk H
   clear H
   have p1005 : 0 ≤ (x9_1 : Int) := of_decide_eq_true zaj3
   have q1005 : x9_1 < (l0.length : Int) := of_decide_eq_true zaj3
   obtain ⟨ad1005, e1005, hx1005_0⟩ := Kd.at_int HR0.out x9_1 p1005 q1005
   cases e1005
   replace p1005 := eq_true p1005
   replace q1005 := eq_true q1005
   have p1006 : 0 ≤ (x4_1 : Int) := of_decide_eq_true zaj3
   have q1006 : x4_1 < (l0.length : Int) := of_decide_eq_true zaj3
   obtain ⟨ad1006, e1006, hx1006_0⟩ := Kd.at_int HR0.out x4_1 p1006 q1006
   obtain rfl : ad1005 = ad1006 := (by injection e1006)
   replace p1006 := eq_true p1006
   replace q1006 := eq_true q1006
   go_wp2
   repeat ((first | go_quiet (fail) | (refine wp_region_quiet_lit (by kernel_rfl) (by kernel_rfl) ?_; (repeat (any_goals (first | go_big_quiet_step (fail) | quiet_step (fail)))); all_goals (refine wpQuiet_nil ?_; intro _ hw2_; obtain ⟨nq, hw3_⟩ := hw2_; subst hw3_))); try go_wp2)
   go_roundg k1
   case measure => have := HK1.out; omega
   case rel => exact ⟨(x4_1), (wrap64 (x9_1 + 1)), zaj8, zaj8, H', ⟨by have := HK1.out; omega⟩, zaj20⟩

/-! ### spec_WidthOf: function 38 -/
mutual
def spec_WidthOf.j0 : Nat → Bool → Int → Int → List Int → Int → Int → Option (Int × Bool)
 | 0, _, _, _, _, _, _ => none
 | k + 1, x21, x1009000, x1009001, x1009002, x1010000, x1010001 => if x21 = true then (some (0, false)) else ((spec_boCells.f k x1009000 x1009001 x1009002).bind fun t1014 => (spec_WidthOf.l0 k 0 t1014 (t1014.length : Int) 0 x1009000 x1009001 x1009002 x1010000 x1010001))
def spec_WidthOf.l0 : Nat → Int → List Int → Int → Int → Int → Int → List Int → Int → Int → Option (Int × Bool)
 | 0, _, _, _, _, _, _, _, _, _ => none
 | k + 1, x6, x23, x24, x25, x1009000, x1009001, x1009002, x1010000, x1010001 => if x25 < x24 then (if 0 ≤ x25 then (if x25 < (x23.length : Int) then ((spec_faFrom.f k x1009000 x1009001 x1009002 x1010000 x1010001 (rd x23 x25)).bind fun t1018 => ((spec_faMost.f k t1018).bind fun bt1021 => ((spec_l1Most.f x6 bt1021.2).bind fun t1023 => (spec_WidthOf.l0 k t1023 x23 x24 (wrap64 (x25 + 1)) x1009000 x1009001 x1009002 x1010000 x1010001)))) else (none)) else (none)) else (some (x6, true))
end
def spec_WidthOf.f (k : Nat) (a0_0 : Int) (a0_1 : Int) (l0_2 : List Int) (a1_0 : Int) (a1_1 : Int) : Option (Int × Bool) := (spec_boTwo.f k a0_0 a0_1 l0_2 a1_0 a1_1).bind fun t1010 => (if t1010 = true then ((spec_faParts.f k a0_0 a0_1 l0_2 a1_0 a1_1).bind fun t1011 => (spec_WidthOf.j0 k ((t1011.length : Int) != 1) a0_0 a0_1 l0_2 a1_0 a1_1)) else (spec_WidthOf.j0 k true a0_0 a0_1 l0_2 a1_0 a1_1))
set_option maxHeartbeats 8000000 in
set_option maxRecDepth 100000 in
theorem spec_WidthOf.calls (k : Nat) (a0_0 : Int) (a0_1 : Int) (A0_2 : Option Addr) (c0_2 : Nat) (l0_2 : List Int) (a1_0 : Int) (a1_1 : Int) (r1 : Int) (r2 : Bool) (w : World) (hr0_2 : Kd.C (Kd.int .i64) w A0_2 l0_2.length l0_2) (hc0_2 : l0_2.length ≤ c0_2) (h : spec_WidthOf.f k a0_0 a0_1 l0_2 a1_0 a1_1 = some (r1, r2)) :
  Calls Try.prog 38 #[.agg #[.int .i64 a0_0, .int .i64 a0_1, .slice A0_2 l0_2.length c0_2], .agg #[.int .i64 a1_0, .int .i64 a1_1]] w fun e w' => e = .returned (.tuple #[.int .i64 r1, .bool r2]) ∧ Below w.heap.size w w' := by
 have hu30 := Try.underlying30
 have hu32 := Try.underlying32
 have HR0_2 := Aside0.mk hr0_2
 have HC0_2 := Aside0.mk hc0_2
 clear hr0_2 hc0_2
 have HB := Aside0.mk (Below.refl w.heap.size w)
 have H : ((spec_boTwo.f k a0_0 a0_1 l0_2 a1_0 a1_1).bind fun t1010 => (if t1010 = true then ((spec_faParts.f k a0_0 a0_1 l0_2 a1_0 a1_1).bind fun t1011 => (spec_WidthOf.j0 k ((t1011.length : Int) != 1) a0_0 a0_1 l0_2 a1_0 a1_1)) else (spec_WidthOf.j0 k true a0_0 a0_1 l0_2 a1_0 a1_1))) = some (r1, r2) := h
 clear h
 have HC3 := Aside0.mk H
 clear H
 go_enter Try.func38, Try.ntmps38
 go_upto_region 1 with (first | ((with_reducible refine gate_dst (N := 2) rfl ?_); (try (refine gate_guard (by rfl) ?_; dsimp only)); refine box_event ?hg (N := 2) ?hd (cs := #[.int .i64 a0_0, .int .i64 a0_1, .slice A0_2 l0_2.length c0_2]) (t := 30) ?hr ?_; (case hd => rfl); (case hg => rfl); (case hr => first | (go_simp; done) | (go_simp; rfl)); intro gb1008 hg w4 hbox hb; have n0_ := Aside0.mk (below_step zaj11 hb); have n1_ := Aside0.mk (hbox); have n2_ := Aside0.mk ((by rw [hg]; exact (below_size zaj11) : w.heap.size ≤ gb1008)); have n3_ := Aside0.mk ((by rw [hg]; exact (below_size zaj11) : w.heap.size ≤ gb1008)); clear HB; have HB := n0_; have BK1008 := n1_; have GW1008 := n2_; have GE1008 := n3_; clear n0_ n1_ n2_ n3_; clear hb hbox hg) | ((with_reducible refine gate_dst (N := 3) rfl ?_); (try (refine gate_guard (by rfl) ?_; dsimp only)); refine box_event ?hg (N := 3) ?hd (cs := #[.int .i64 a1_0, .int .i64 a1_1]) (t := 32) ?hr ?_; (case hd => rfl); (case hg => rfl); (case hr => first | (go_simp; done) | (go_simp; rfl)); intro gb1009 hg w5 hbox hb; have n0_ := Aside0.mk (blk_below (g := gb1008) (o := .cells #[.int .i64 a0_0, .int .i64 a0_1, .slice A0_2 l0_2.length c0_2] 30 (0, 0)) zaj4 hb); have n1_ := Aside0.mk (below_step zaj15 hb); have n2_ := Aside0.mk (hbox); have n3_ := Aside0.mk ((by rw [hg]; exact (below_size zaj15) : w.heap.size ≤ gb1009)); have n4_ := Aside0.mk ((by rw [hg]; exact (below_size zaj15) : w.heap.size ≤ gb1009)); have n5_ := Aside0.mk ((by rw [hg]; exact Nat.ne_of_lt (blk_lt (g := gb1008) (o := .cells #[.int .i64 a0_0, .int .i64 a0_1, .slice A0_2 l0_2.length c0_2] 30 (0, 0)) zaj4) : gb1008 ≠ gb1009)); have n6_ := Aside0.mk ((by rw [hg]; exact Nat.ne_of_gt (blk_lt (g := gb1008) (o := .cells #[.int .i64 a0_0, .int .i64 a0_1, .slice A0_2 l0_2.length c0_2] 30 (0, 0)) zaj4) : gb1009 ≠ gb1008)); clear BK1008; clear HB; have BK1008 := n0_; have HB := n1_; have BK1009 := n2_; have GW1009 := n3_; have GE1009 := n4_; have NB1008_1009 := n5_; have NB1009_1008 := n6_; clear n0_ n1_ n2_ n3_ n4_ n5_ n6_; clear hb hbox hg))
 (try simp only [Act.put, List.setIfInBounds_toArray, List.set_cons_zero, List.set_cons_succ])
 go_cut [21] (fun v21 wc => ∃ (kq : Nat) (x21_2 : Bool), v21 = .bool x21_2 ∧ Aside0 (spec_WidthOf.j0 kq x21_2 a0_0 a0_1 l0_2 a1_0 a1_1 = some (r1, r2)) ∧ Aside0 (kq ≤ k) ∧ Aside0 (wc.heap[gb1008]? = some (.cells #[.int .i64 a0_0, .int .i64 a0_1, (.slice A0_2 l0_2.length c0_2)] 30 (0, 0))) ∧ Aside0 (wc.heap[gb1009]? = some (.cells #[.int .i64 a1_0, .int .i64 a1_1] 32 (0, 0))) ∧ Aside0 (Below w.heap.size w wc))
 case first =>
  have H := HC3.out
  clear HC3
  replace H := Option.bind_eq_some_iff.mp H
  obtain ⟨t1010, A60, H⟩ := H
  replace H : (if t1010 = true then ((spec_faParts.f k a0_0 a0_1 l0_2 a1_0 a1_1).bind fun t1011 => (spec_WidthOf.j0 k ((t1011.length : Int) != 1) a0_0 a0_1 l0_2 a1_0 a1_1)) else (spec_WidthOf.j0 k true a0_0 a0_1 l0_2 a1_0 a1_1)) = some (r1, r2) := H
  have A6 := Aside0.mk A60
  clear A60
  by_cases c7 : t1010 = true
  rotate_left
  ·replace c7 := Bool.eq_false_iff.mpr c7
   subst c7
   have H1 : (spec_WidthOf.j0 k true a0_0 a0_1 l0_2 a1_0 a1_1) = some (r1, r2) := by rw [if_neg (show ¬ (false = true) by decide)] at H; exact H
   clear H
   have H := H1
   clear H1
   have H' := Aside0.mk H
   clear H
   have hnb17 := NB1008_1009.out
   have hnc17 := NB1009_1008.out
   have hcz18_0 : w5.cell? ⟨gb1008, 0, none⟩ = some (.int .i64 a0_0) := (blk_cell BK1008.out 0).trans rfl
   have hcz18_1 : w5.cell? ⟨gb1008, 1, none⟩ = some (.int .i64 a0_1) := (blk_cell BK1008.out 1).trans rfl
   have hcz18_2 : w5.cell? ⟨gb1008, 2, none⟩ = some (.slice A0_2 l0_2.length c0_2) := (blk_cell BK1008.out 2).trans rfl
   have hfz18_0 := blk_frozen BK1008.out 0
   have hfz18_1 := blk_frozen BK1008.out 1
   have hfz18_2 := blk_frozen BK1008.out 2
   have hcz19_0 : w5.cell? ⟨gb1009, 0, none⟩ = some (.int .i64 a1_0) := (blk_cell BK1009.out 0).trans rfl
   have hcz19_1 : w5.cell? ⟨gb1009, 1, none⟩ = some (.int .i64 a1_1) := (blk_cell BK1009.out 1).trans rfl
   have hfz19_0 := blk_frozen BK1009.out 0
   have hfz19_1 := blk_frozen BK1009.out 1
   go_wp2_with (first | ((with_reducible refine gate_callee (f := 53) rfl ?_); refine goesL_ (some 13) rfl rfl Try.func53 (by kernel_rfl) rfl #[.agg #[.int .i64 a0_0, .int .i64 a0_1, .slice A0_2 l0_2.length c0_2], .agg #[.int .i64 a1_0, .int .i64 a1_1]] rfl zaj7 ?_; (with_reducible refine (spec_boTwo.calls k a0_0 a0_1 _ _ l0_2 a1_0 a1_1 false _ ?side1 ?side2 A6.out).mono ?_); (case side1 => exact zaj6); (case side2 => exact HC0_2.out); rintro e w20 ⟨rfl, hb⟩; refine ⟨_, rfl, ?_⟩; have n0_ := Aside0.mk (blk_below (g := gb1008) (o := .cells #[.int .i64 a0_0, .int .i64 a0_1, .slice A0_2 l0_2.length c0_2] 30 (0, 0)) zaj4 hb); have n1_ := Aside0.mk (blk_below (g := gb1009) (o := .cells #[.int .i64 a1_0, .int .i64 a1_1] 32 (0, 0)) zaj9 hb); have n2_ := Aside0.mk (below_step zaj2 hb); clear BK1008; clear BK1009; clear HB; have BK1008 := n0_; have BK1009 := n1_; have HB := n2_; clear n0_ n1_ n2_; (try clear hb); (try clear hb2); (try clear hk); (try clear hi); (try clear hna_); (try clear hnb_)))
   go_meet
   case rel => exact ⟨_, (true), zaj8, H', ⟨by first | omega | exact Nat.le_refl _⟩, ⟨zaj4⟩, ⟨zaj9⟩, ⟨zaj2⟩⟩
  subst c7
  have H1 : ((spec_faParts.f k a0_0 a0_1 l0_2 a1_0 a1_1).bind fun t1011 => (spec_WidthOf.j0 k ((t1011.length : Int) != 1) a0_0 a0_1 l0_2 a1_0 a1_1)) = some (r1, r2) := by rw [if_pos rfl] at H; exact H
  clear H
  have H := H1
  clear H1
  replace H := Option.bind_eq_some_iff.mp H
  obtain ⟨t1011, A80, H⟩ := H
  replace H : (spec_WidthOf.j0 k ((t1011.length : Int) != 1) a0_0 a0_1 l0_2 a1_0 a1_1) = some (r1, r2) := H
  have A8 := Aside0.mk A80
  clear A80
  have H' := Aside0.mk H
  clear H
  have hnb9 := NB1008_1009.out
  have hnc9 := NB1009_1008.out
  have hcz10_0 : w5.cell? ⟨gb1008, 0, none⟩ = some (.int .i64 a0_0) := (blk_cell BK1008.out 0).trans rfl
  have hcz10_1 : w5.cell? ⟨gb1008, 1, none⟩ = some (.int .i64 a0_1) := (blk_cell BK1008.out 1).trans rfl
  have hcz10_2 : w5.cell? ⟨gb1008, 2, none⟩ = some (.slice A0_2 l0_2.length c0_2) := (blk_cell BK1008.out 2).trans rfl
  have hfz10_0 := blk_frozen BK1008.out 0
  have hfz10_1 := blk_frozen BK1008.out 1
  have hfz10_2 := blk_frozen BK1008.out 2
  have hcz11_0 : w5.cell? ⟨gb1009, 0, none⟩ = some (.int .i64 a1_0) := (blk_cell BK1009.out 0).trans rfl
  have hcz11_1 : w5.cell? ⟨gb1009, 1, none⟩ = some (.int .i64 a1_1) := (blk_cell BK1009.out 1).trans rfl
  have hfz11_0 := blk_frozen BK1009.out 0
  have hfz11_1 := blk_frozen BK1009.out 1
  go_wp2_with (first | ((with_reducible refine gate_callee (f := 53) rfl ?_); refine goesL_ (some 13) rfl rfl Try.func53 (by kernel_rfl) rfl #[.agg #[.int .i64 a0_0, .int .i64 a0_1, .slice A0_2 l0_2.length c0_2], .agg #[.int .i64 a1_0, .int .i64 a1_1]] rfl zaj7 ?_; (with_reducible refine (spec_boTwo.calls k a0_0 a0_1 _ _ l0_2 a1_0 a1_1 true _ ?side1 ?side2 A6.out).mono ?_); (case side1 => exact zaj6); (case side2 => exact HC0_2.out); rintro e w12 ⟨rfl, hb⟩; refine ⟨_, rfl, ?_⟩; have n0_ := Aside0.mk (blk_below (g := gb1008) (o := .cells #[.int .i64 a0_0, .int .i64 a0_1, .slice A0_2 l0_2.length c0_2] 30 (0, 0)) zaj4 hb); have n1_ := Aside0.mk (blk_below (g := gb1009) (o := .cells #[.int .i64 a1_0, .int .i64 a1_1] 32 (0, 0)) zaj9 hb); have n2_ := Aside0.mk (below_step zaj2 hb); clear BK1008; clear BK1009; clear HB; have BK1008 := n0_; have BK1009 := n1_; have HB := n2_; clear n0_ n1_ n2_; (try clear hb); (try clear hb2); (try clear hk); (try clear hi); (try clear hna_); (try clear hnb_); have hcz13_0 : w12.cell? ⟨gb1008, 0, none⟩ = some (.int .i64 a0_0) := (blk_cell BK1008.out 0).trans rfl; have hcz13_1 : w12.cell? ⟨gb1008, 1, none⟩ = some (.int .i64 a0_1) := (blk_cell BK1008.out 1).trans rfl; have hcz13_2 : w12.cell? ⟨gb1008, 2, none⟩ = some (.slice A0_2 l0_2.length c0_2) := (blk_cell BK1008.out 2).trans rfl; have hfz13_0 := blk_frozen BK1008.out 0; have hfz13_1 := blk_frozen BK1008.out 1; have hfz13_2 := blk_frozen BK1008.out 2; have hcz14_0 : w12.cell? ⟨gb1009, 0, none⟩ = some (.int .i64 a1_0) := (blk_cell BK1009.out 0).trans rfl; have hcz14_1 : w12.cell? ⟨gb1009, 1, none⟩ = some (.int .i64 a1_1) := (blk_cell BK1009.out 1).trans rfl; have hfz14_0 := blk_frozen BK1009.out 0; have hfz14_1 := blk_frozen BK1009.out 1) | (go_at_call 73; (with_reducible refine (spec_faParts.calls k a0_0 a0_1 _ _ l0_2 a1_0 a1_1 t1011 _ ?side1 ?side2 A8.out).mono ?_); (case side1 => exact zaj6); (case side2 => exact HC0_2.out); rintro e w15 ⟨v1012, rfl, ho0, hb⟩; have n0_ := Aside0.mk (Kd.S_lower ho0 (below_size zaj2)); have n1_ := Aside0.mk (blk_below (g := gb1008) (o := .cells #[.int .i64 a0_0, .int .i64 a0_1, .slice A0_2 l0_2.length c0_2] 30 (0, 0)) zaj4 hb); have n2_ := Aside0.mk (blk_below (g := gb1009) (o := .cells #[.int .i64 a1_0, .int .i64 a1_1] 32 (0, 0)) zaj9 hb); have n3_ := Aside0.mk (below_step zaj2 hb); clear BK1008; clear BK1009; clear HB; have HO1013 := n0_; have BK1008 := n1_; have BK1009 := n2_; have HB := n3_; clear n0_ n1_ n2_ n3_; (try clear hb); (try clear hb2); (try clear hk); (try clear hi); (try clear ho0); (try clear hna_); (try clear hnb_); obtain ⟨Ao16, co16, eo16⟩ := Kd.S_slice HO1013.out; subst eo16))
  go_meet
  case rel => exact ⟨_, (((t1011.length : Int) != 1)), zaj8, H', ⟨by first | omega | exact Nat.le_refl _⟩, ⟨zaj4⟩, ⟨zaj9⟩, ⟨zaj2⟩⟩
 case rest =>
  clear HC3
  try clear c1; try clear p2; try clear c3; try clear c5; try clear c7; try clear c9; try clear c17; try clear hcz10_0; try clear hcz10_1; try clear hcz10_2; try clear hcz11_0; try clear hcz11_1; try clear hcz13_0; try clear hcz13_1; try clear hcz13_2; try clear hcz14_0; try clear hcz14_1; try clear hcz18_0; try clear hcz18_1; try clear hcz18_2; try clear hcz19_0; try clear hcz19_1; try clear hfz10_0; try clear hfz10_1; try clear hfz10_2; try clear hfz11_0; try clear hfz11_1; try clear hfz13_0; try clear hfz13_1; try clear hfz13_2; try clear hfz14_0; try clear hfz14_1; try clear hfz18_0; try clear hfz18_1
  try clear hfz18_2; try clear hfz19_0; try clear hfz19_1
  obtain ⟨kq, x21_2, rfl, HA, HJ2, BK1008, BK1009, HB⟩ := hcut
  cases kq with
  | zero => exact absurd HA.out (by simp [spec_WidthOf.j0])
  | succ kj2 =>
   have H := HA.out
   clear HA
   simp only [spec_WidthOf.j0] at H
   by_cases c21 : x21_2 = true
   ·subst c21
    have H1 : (some (0, false)) = some (r1, r2) := by rw [if_pos rfl] at H; exact H
    clear H
    have H := H1
    clear H1
    simp only [Option.some.injEq, Prod.mk.injEq] at H
    obtain ⟨rfl, rfl⟩ := H
    go_wp2
    go_ret2
    exact ⟨by first | rfl | (simp [errW_none, errW_some] <;> rfl) | (simp [*, errW_none, errW_some] <;> rfl), zaj2⟩
   replace c21 := Bool.eq_false_iff.mpr c21
   subst c21
   have H1 : ((spec_boCells.f kj2 a0_0 a0_1 l0_2).bind fun t1014 => (spec_WidthOf.l0 kj2 0 t1014 (t1014.length : Int) 0 a0_0 a0_1 l0_2 a1_0 a1_1)) = some (r1, r2) := by rw [if_neg (show ¬ (false = true) by decide)] at H; exact H
   clear H
   have H := H1
   clear H1
   replace H := Option.bind_eq_some_iff.mp H
   obtain ⟨t1014, A220, H⟩ := H
   replace H : (spec_WidthOf.l0 kj2 0 t1014 (t1014.length : Int) 0 a0_0 a0_1 l0_2 a1_0 a1_1) = some (r1, r2) := H
   have A22 := Aside0.mk A220
   clear A220
   have H' := Aside0.mk H
   clear H
   have hnb23 := NB1008_1009.out
   have hnc23 := NB1009_1008.out
   have hcz24_0 : wc.cell? ⟨gb1008, 0, none⟩ = some (.int .i64 a0_0) := (blk_cell BK1008.out 0).trans rfl
   have hcz24_1 : wc.cell? ⟨gb1008, 1, none⟩ = some (.int .i64 a0_1) := (blk_cell BK1008.out 1).trans rfl
   have hcz24_2 : wc.cell? ⟨gb1008, 2, none⟩ = some (.slice A0_2 l0_2.length c0_2) := (blk_cell BK1008.out 2).trans rfl
   have hfz24_0 := blk_frozen BK1008.out 0
   have hfz24_1 := blk_frozen BK1008.out 1
   have hfz24_2 := blk_frozen BK1008.out 2
   go_wp2_with (first | ((with_reducible refine gate_callee (f := 74) rfl ?_); refine goesL_ (some 23) rfl rfl Try.func74 (by kernel_rfl) rfl #[.agg #[.int .i64 a0_0, .int .i64 a0_1, .slice A0_2 l0_2.length c0_2]] rfl zaj7 ?_; (with_reducible refine (spec_boCells.calls kj2 a0_0 a0_1 _ _ l0_2 t1014 _ ?side1 ?side2 A22.out).mono ?_); (case side1 => exact zaj6); (case side2 => exact HC0_2.out); rintro e w25 ⟨v1015, rfl, ho0, hb⟩; refine ⟨_, rfl, ?_⟩; have n0_ := Aside0.mk (Kd.R_lower ho0 (below_size zaj2)); have n1_ := Aside0.mk (blk_below (g := gb1008) (o := .cells #[.int .i64 a0_0, .int .i64 a0_1, .slice A0_2 l0_2.length c0_2] 30 (0, 0)) zaj4 hb); have n2_ := Aside0.mk (blk_below (g := gb1009) (o := .cells #[.int .i64 a1_0, .int .i64 a1_1] 32 (0, 0)) zaj9 hb); have n3_ := Aside0.mk (below_step zaj2 hb); clear BK1008; clear BK1009; clear HB; have HO1016 := n0_; have BK1008 := n1_; have BK1009 := n2_; have HB := n3_; clear n0_ n1_ n2_ n3_; (try clear hb); (try clear hb2); (try clear hk); (try clear hi); (try clear ho0); (try clear hna_); (try clear hnb_); obtain ⟨Ao26, co26, eo26⟩ := Kd.R_slice HO1016.out; subst eo26))
   go_loopg [6, 25] kj2 (fun kq v6 v25 w' => ∃ (x6_2 : Int) (x25_2 : Int), v6 = .int .i64 x6_2 ∧ v25 = .int .i64 x25_2 ∧ Aside0 (spec_WidthOf.l0 kq x6_2 t1014 (t1014.length : Int) x25_2 a0_0 a0_1 l0_2 a1_0 a1_1 = some (r1, r2)) ∧ Aside0 (kq ≤ kj2) ∧ Aside0 (Kd.R (Kd.int .i64) 3 w' w.heap.size (fun _ => True) (.slice Ao26 t1014.length co26) t1014) ∧ Aside0 (w'.heap[gb1008]? = some (.cells #[.int .i64 a0_0, .int .i64 a0_1, (.slice A0_2 l0_2.length c0_2)] 30 (0, 0))) ∧ Aside0 (w'.heap[gb1009]? = some (.cells #[.int .i64 a1_0, .int .i64 a1_1] 32 (0, 0))) ∧ Aside0 (Below w.heap.size w w'))
   case atStart => exact ⟨(0), (0), zaj8, zaj8, H', ⟨Nat.le_refl _⟩, ⟨by (with_reducible repeat (first | apply Kd.R_alloc | apply Kd.R_drewN | apply Kd.R_drew)); exact HO1016.out⟩, ⟨zaj4⟩, ⟨zaj9⟩, ⟨zaj2⟩⟩
   case round =>
    clear H'
    try clear c1; try clear c2; try clear p2; try clear c3; try clear c5; try clear c7; try clear c9; try clear c17; try clear c21; try clear c23; try clear hcz10_0; try clear hcz10_1; try clear hcz10_2; try clear hcz11_0; try clear hcz11_1; try clear hcz13_0; try clear hcz13_1; try clear hcz13_2; try clear hcz14_0; try clear hcz14_1; try clear hcz18_0; try clear hcz18_1; try clear hcz18_2; try clear hcz19_0; try clear hcz19_1; try clear hcz24_0; try clear hcz24_1; try clear hcz24_2; try clear hfz10_0; try clear hfz10_1; try clear hfz10_2; try clear hfz11_0; try clear hfz11_1; try clear hfz13_0; try clear hfz13_1
    try clear hfz13_2; try clear hfz14_0; try clear hfz14_1; try clear hfz18_0; try clear hfz18_1; try clear hfz18_2; try clear hfz19_0; try clear hfz19_1; try clear hfz24_0; try clear hfz24_1; try clear hfz24_2; try clear p2
    obtain ⟨x6_2, x25_2, rfl, rfl, HA, HK2, HO_23, BK1008, BK1009, HB⟩ := hrel
    cases gk with
    | zero => exact absurd HA.out (by simp [spec_WidthOf.l0])
    | succ k2 =>
     have H := HA.out
     clear HA
     simp only [spec_WidthOf.l0] at H
     by_cases c27 : x25_2 < (t1014.length : Int)
     rotate_left
     ·rw [if_neg c27] at H
      have c27b0 : decide (x25_2 < (t1014.length : Int)) = false := decide_eq_false c27
      clear c27
      simp only [Option.some.injEq, Prod.mk.injEq] at H
      obtain ⟨rfl, rfl⟩ := H
      go_wp2
      go_ret2
      exact ⟨by first | rfl | (simp [errW_none, errW_some] <;> rfl) | (simp [*, errW_none, errW_some] <;> rfl), zaj2⟩
     rw [if_pos c27] at H
     have c27b0 : decide (x25_2 < (t1014.length : Int)) = true := decide_eq_true c27
     clear c27
     by_cases c28 : 0 ≤ x25_2
     rotate_left
     ·rw [if_neg c28] at H
      exact absurd H (by simp)
     rw [if_pos c28] at H
     have c28b0 : decide (0 ≤ x25_2) = true := decide_eq_true c28
     clear c28
     by_cases c29 : x25_2 < (t1014.length : Int)
     rotate_left
     ·rw [if_neg c29] at H
      exact absurd H (by simp)
     rw [if_pos c29] at H
     have c29b0 : decide (x25_2 < (t1014.length : Int)) = true := decide_eq_true c29
     clear c29
     replace H := Option.bind_eq_some_iff.mp H
     obtain ⟨t1018, A300, H⟩ := H
     replace H : ((spec_faMost.f k2 t1018).bind fun bt1021 => ((spec_l1Most.f x6_2 bt1021.2).bind fun t1023 => (spec_WidthOf.l0 k2 t1023 t1014 (t1014.length : Int) (wrap64 (x25_2 + 1)) a0_0 a0_1 l0_2 a1_0 a1_1))) = some (r1, r2) := H
     have A30 := Aside0.mk A300
     clear A300
     replace H := Option.bind_eq_some_iff.mp H
     obtain ⟨⟨t1021, t1022⟩, A310, H⟩ := H
     replace H : ((spec_l1Most.f x6_2 t1022).bind fun t1023 => (spec_WidthOf.l0 k2 t1023 t1014 (t1014.length : Int) (wrap64 (x25_2 + 1)) a0_0 a0_1 l0_2 a1_0 a1_1)) = some (r1, r2) := H
     have A31 := Aside0.mk A310
     clear A310
     replace H := Option.bind_eq_some_iff.mp H
     obtain ⟨t1023, A320, H⟩ := H
     replace H : (spec_WidthOf.l0 k2 t1023 t1014 (t1014.length : Int) (wrap64 (x25_2 + 1)) a0_0 a0_1 l0_2 a1_0 a1_1) = some (r1, r2) := H
     have A32 := Aside0.mk A320
     clear A320
     have H' := Aside0.mk H
     clear H
     have p1017 : 0 ≤ (x25_2 : Int) := of_decide_eq_true zaj3
     have q1017 : x25_2 < (t1014.length : Int) := of_decide_eq_true zaj3
     obtain ⟨ad1017, e1017, hx1017_0⟩ := Kd.at_int (Kd.R_reads' HO_23.out).2.2 x25_2 p1017 q1017
     cases e1017
     replace p1017 := eq_true p1017
     replace q1017 := eq_true q1017
     have hnb33 := NB1008_1009.out
     have hnc33 := NB1009_1008.out
     have hcz34_0 : wr.cell? ⟨gb1008, 0, none⟩ = some (.int .i64 a0_0) := (blk_cell BK1008.out 0).trans rfl
     have hcz34_1 : wr.cell? ⟨gb1008, 1, none⟩ = some (.int .i64 a0_1) := (blk_cell BK1008.out 1).trans rfl
     have hcz34_2 : wr.cell? ⟨gb1008, 2, none⟩ = some (.slice A0_2 l0_2.length c0_2) := (blk_cell BK1008.out 2).trans rfl
     have hfz34_0 := blk_frozen BK1008.out 0
     have hfz34_1 := blk_frozen BK1008.out 1
     have hfz34_2 := blk_frozen BK1008.out 2
     have hcz35_0 : wr.cell? ⟨gb1009, 0, none⟩ = some (.int .i64 a1_0) := (blk_cell BK1009.out 0).trans rfl
     have hcz35_1 : wr.cell? ⟨gb1009, 1, none⟩ = some (.int .i64 a1_1) := (blk_cell BK1009.out 1).trans rfl
     have hfz35_0 := blk_frozen BK1009.out 0
     have hfz35_1 := blk_frozen BK1009.out 1
     go_wp2_with (first | ((with_reducible refine gate_callee (f := 65) rfl ?_); refine goesL_ (some 33) rfl rfl Try.func65 (by kernel_rfl) rfl #[.agg #[.int .i64 a0_0, .int .i64 a0_1, .slice A0_2 l0_2.length c0_2], .agg #[.int .i64 a1_0, .int .i64 a1_1], .int .i64 (rd t1014 x25_2)] rfl zaj7 ?_; (with_reducible refine (spec_faFrom.calls k2 a0_0 a0_1 _ _ l0_2 a1_0 a1_1 (rd t1014 x25_2) t1018 _ ?side1 ?side2 A30.out).mono ?_); (case side1 => exact zaj6); (case side2 => exact HC0_2.out); rintro e w36 ⟨v1019, rfl, ho0, hb⟩; refine ⟨_, rfl, ?_⟩; have n0_ := Aside0.mk (Kd.R_elder' (by (with_reducible repeat (first | apply Kd.R_alloc | apply Kd.R_drewN | apply Kd.R_drew)); exact HO_23.out) (Kd.R_base ho0) hb); have n1_ := Aside0.mk (Kd.R_lower (Kd.R_new' ho0 (Kd.R_lt (by (with_reducible repeat (first | apply Kd.R_alloc | apply Kd.R_drewN | apply Kd.R_drew)); exact HO_23.out))) (below_size zaj2)); have n2_ := Aside0.mk (blk_below (g := gb1008) (o := .cells #[.int .i64 a0_0, .int .i64 a0_1, .slice A0_2 l0_2.length c0_2] 30 (0, 0)) zaj4 hb); have n3_ := Aside0.mk (blk_below (g := gb1009) (o := .cells #[.int .i64 a1_0, .int .i64 a1_1] 32 (0, 0)) zaj9 hb); have n4_ := Aside0.mk (below_step zaj2 hb); clear HO_23; clear BK1008; clear BK1009; clear HB; have HO_23 := n0_; have HO1020 := n1_; have BK1008 := n2_; have BK1009 := n3_; have HB := n4_; clear n0_ n1_ n2_ n3_ n4_; (try clear hb); (try clear hb2); (try clear hk); (try clear hi); (try clear ho0); (try clear hna_); (try clear hnb_); obtain ⟨Ao37, co37, eo37⟩ := Kd.R_slice HO1020.out; subst eo37) | ((with_reducible refine gate_callee (f := 75) rfl ?_); refine goesL_ (some 34) rfl rfl Try.func75 (by kernel_rfl) rfl #[.slice Ao37 t1018.length co37] rfl zaj7 ?_; (with_reducible refine (spec_faMost.calls k2 _ _ t1018 t1021 t1022 _ ?side1 ?side2 A31.out).mono ?_); (case side1 => repeat (first | exact (Kd.R_reads' HO1020.out).2.2 | (with_reducible refine Kd.C_alloc ?_ _) | (with_reducible refine Kd.C_drewN ?_ _) | (with_reducible refine Kd.C_drew ?_))); (case side2 => exact (Kd.R_reads' HO1020.out).2.1); rintro e w' ⟨rfl, ⟨nd, rfl⟩⟩; refine ⟨_, rfl, ?_⟩) | ((with_reducible refine gate_callee (f := 76) rfl ?_); refine goesL_ (some 39) rfl rfl Try.func76 (by kernel_rfl) rfl #[.int .i64 x6_2, .int .i64 t1022] rfl zaj7 ?_; (with_reducible refine (spec_l1Most.calls x6_2 t1022 t1023 _ A32.out).mono ?_); rintro e w' ⟨rfl, ⟨nd, rfl⟩⟩; refine ⟨_, rfl, ?_⟩))
     go_roundg k2
     case measure => have := HJ2.out; have := HK2.out; omega
     case rel => exact ⟨(t1023), (wrap64 (x25_2 + 1)), zaj8, zaj8, H', ⟨by have := HJ2.out; have := HK2.out; omega⟩, ⟨by (with_reducible repeat (first | apply Kd.R_alloc | apply Kd.R_drewN | apply Kd.R_drew)); exact Kd.R_mono HO_23.out (fun _ hk => trivial)⟩, ⟨zaj4⟩, ⟨zaj9⟩, ⟨zaj2⟩⟩

end Go.Proofs.Ytjeongckkfkehaa.Q

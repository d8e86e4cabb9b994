/- Written by a program of this session: functions of the translation as plain Lean functions, each with a proof that the call does what the plain function says; the conditions stand in each theorem. -/
import Derived.Test.YtfjomkjngolboaaQ0
import Derived.Test.YtfjomkjngolboaaQ2
import Derived.Test.YtfjomkjngolboaaQ3
namespace Go.Proofs.Ytfjomkjngolboaa.Q
open Go.RowKit Go.Proofs.YtfjomkjngolboaaW.PrintWords Go.Proofs.YtfjomkjngolboaaW.PrintLast Go.Proofs.YtfjomkjngolboaaW.PrintMore
attribute [local go_sem] max2_int min2_int max_two min_two max_three min_three max_four min_four   -- for this text's walks alone
set_option linter.unusedVariables false
set_option linter.unusedSimpArgs false

theorem ze1 {p : Prop} (h : p := by repeat (first | (with_reducible first | exact HB.out | apply below_alloc | apply pw_below_drewN | apply below_drew1 | refine below_set ?_ GE184.out | refine below_set ?_ GE185.out) | exact HB.out)) : p := h
theorem ze2 {p : Prop} (h : p := by repeat (first | (with_reducible first | exact HB.out | apply below_alloc | apply pw_below_drewN | apply below_drew1) | exact HB.out)) : p := h
theorem ze3 {p : Prop} (h : p := by repeat (first | (with_reducible first | exact HB.out | apply below_alloc | apply pw_below_drewN | apply below_drew1 | refine below_set ?_ GE211.out) | exact HB.out)) : p := h
theorem ze4 {p : Prop} (h : p := by first | (with_reducible assumption) | assumption) : p := h
theorem ze5 {p : Prop} (h : p := by first | exact BK184.out | ((with_reducible repeat (first | refine blk_drewN ?_ _ | refine blk_drew ?_ | refine blk_alloc ?_ _)); exact BK184.out)) : p := h
theorem ze6 {p : Prop} (h : p := by repeat (first | (with_reducible first | exact HB.out | apply below_alloc | apply pw_below_drewN | apply below_drew1 | refine below_set ?_ GE205.out | refine below_set ?_ GE206.out) | exact HB.out)) : p := h
theorem ze7 {p : Prop} (h : p := by (try simp only [List.map_toArray, List.map_cons, List.map_nil]); first | done | rfl | (simp only [List.length_drop, List.length_take]; rfl)) : p := h
theorem ze8 {p : Prop} (h : p := by first | exact BK205.out | ((with_reducible repeat (first | refine blk_drewN ?_ _ | refine blk_drew ?_ | refine blk_alloc ?_ _)); exact BK205.out)) : p := h
theorem ze9 {p : Prop} (h : p := by first | exact BK185.out | ((with_reducible repeat (first | refine blk_drewN ?_ _ | refine blk_drew ?_ | refine blk_alloc ?_ _)); exact BK185.out)) : p := h
theorem ze10 {p : Prop} (h : p := by first | rfl | (simp [errW_none, errW_some] <;> rfl) | (simp [*, errW_none, errW_some] <;> rfl)) : p := h
theorem ze11 {p : Prop} (h : p := by repeat (first | (with_reducible first | exact HB.out | apply below_alloc | apply pw_below_drewN | apply below_drew1 | refine below_set ?_ GE205.out) | exact HB.out)) : p := h
theorem ze12 {p : Prop} (h : p := by repeat (first | exact (Kd.C_below HR0_2.out HB.out) | (with_reducible refine Kd.C_alloc ?_ _) | (with_reducible refine Kd.C_drewN ?_ _) | (with_reducible refine Kd.C_drew ?_))) : p := h
theorem ze13 {p : Prop} (h : p := by first | exact HO_19.out | ((with_reducible repeat (first | apply Kd.R_alloc | apply Kd.R_drewN | apply Kd.R_drew)); exact HO_19.out)) : p := h
theorem ze14 {p : Prop} (h : p := by first | exact BK211.out | ((with_reducible repeat (first | refine blk_drewN ?_ _ | refine blk_drew ?_ | refine blk_alloc ?_ _)); exact BK211.out)) : p := h
theorem ze15 {p : Prop} (h : p := by first | rfl | (simp; done) | (simp [*]; done)) : p := h
theorem ze16 {p : Prop} (h : p := by first | exact HO_6.out | ((with_reducible repeat (first | apply Kd.S_alloc | apply Kd.S_drewN | apply Kd.S_drew)); exact HO_6.out)) : p := h
theorem ze17 {p : Prop} (h : p := by repeat (first | (with_reducible first | exact HB.out | apply below_alloc | apply pw_below_drewN | apply below_drew1 | refine below_set ?_ GE216.out) | exact HB.out)) : p := h
theorem ze18 {p : Prop} (h : p := by first | exact HO_5.out | ((with_reducible repeat (first | apply Kd.R_alloc | apply Kd.R_drewN | apply Kd.R_drew)); exact HO_5.out)) : p := h
theorem ze19 {p : Prop} (h : p := by repeat (first | (with_reducible first | exact HB.out | apply below_alloc | apply pw_below_drewN | apply below_drew1 | refine below_set ?_ GE184.out) | exact HB.out)) : p := h
theorem ze20 {p : Prop} (h : p := by first | exact HO_32.out | ((with_reducible repeat (first | apply Kd.R_alloc | apply Kd.R_drewN | apply Kd.R_drew)); exact HO_32.out)) : p := h
theorem ze21 {p : Prop} (h : p := by (try simp only [hl5_2]); first | exact BK185.out | ((with_reducible repeat (first | refine blk_drewN ?_ _ | refine blk_drew ?_ | refine blk_alloc ?_ _)); exact BK185.out)) : p := h
theorem ze22 {p : Prop} (h : p := by (try simp only [hl5_2]); first | exact BK184.out | ((with_reducible repeat (first | refine blk_drewN ?_ _ | refine blk_drew ?_ | refine blk_alloc ?_ _)); exact BK184.out)) : p := h
theorem ze23 {p : Prop} (h : p := by (try simp only [hl5_2]); first | exact HO_5.out | ((with_reducible repeat (first | apply Kd.R_alloc | apply Kd.R_drewN | apply Kd.R_drew)); exact HO_5.out)) : p := h
theorem ze24 {p : Prop} (h : p := by first | exact BK206.out | ((with_reducible repeat (first | refine blk_drewN ?_ _ | refine blk_drew ?_ | refine blk_alloc ?_ _)); exact BK206.out)) : p := h
theorem ze25 {p : Prop} (h : p := by first | exact Kd.S_nil _ _ _ _ _ | exact Kd.N_nil _ _ _ _ _ | exact Kd.V_nil _ _ _ _ _ | exact Kd.Q_nil _ _ _ _ _ | exact Kd.R_nil _ _ _ _ _) : p := h
theorem ze26 {p : Prop} (h : p := by rw [hg]; exact (below_size ze2)) : p := h
theorem ze27 {p : Prop} (h : p := by rw [hg]; exact Nat.ne_of_lt (blk_lt (g := gb205) (o := .cells #[.int .i64 a0_0, .int .i64 a0_1, .slice A0_2 l0_2.length c0_2] 30 (0, 0)) ze8)) : p := h
theorem ze28 {p : Prop} (h : p := by rw [hg]; exact Nat.ne_of_gt (blk_lt (g := gb205) (o := .cells #[.int .i64 a0_0, .int .i64 a0_1, .slice A0_2 l0_2.length c0_2] 30 (0, 0)) ze8)) : p := h
/-! ### spec_faParts: function 27 -/
mutual
def spec_faParts.l0 : Nat → List Bool → List (List Int) → List Int → Int → Int → Int → Int → List Int → Int → Int → Option ((List (List Int)))
 | 0, _, _, _, _, _, _, _, _, _, _ => none
 | k + 1, x5, x6, x19, x20, x21, x185000, x185001, x185002, x186000, x186001 => if x21 < x20 then (if 0 ≤ x21 then (if x21 < (x19.length : Int) then (if 0 ≤ (rd x19 x21) then (if (rd x19 x21) < (x5.length : Int) then (if rdOf false x5 (rd x19 x21) = true then (spec_faParts.l0 k x5 x6 x19 x20 (wrap64 (x21 + 1)) x185000 x185001 x185002 x186000 x186001) else ((spec_faFrom.f k x185000 x185001 x185002 x186000 x186001 (rd x19 x21)).bind fun t194 => (spec_faParts.l1 k x5 x6 ([] : List Int) x19 x20 x21 t194 (t194.length : Int) 0 x185000 x185001 x185002 x186000 x186001))) else (none)) else (none)) else (none)) else (none)) else (some x6)
def spec_faParts.l1 : Nat → List Bool → List (List Int) → List Int → List Int → Int → Int → List Int → Int → Int → Int → Int → List Int → Int → Int → Option ((List (List Int)))
 | 0, _, _, _, _, _, _, _, _, _, _, _, _, _, _ => none
 | k + 1, x5, x6, x9, x19, x20, x21, x32, x33, x34, x185000, x185001, x185002, x186000, x186001 => if x34 < x33 then (if 0 ≤ x34 then (if x34 < (x32.length : Int) then (if (rd x32 x34) ≥ 0 then (if x9.length < 17592186044416 then (if x34 < (x5.length : Int) then (spec_faParts.l1 k (x5.set (x34 : Int).toNat true) x6 (x9 ++ [x34]) x19 x20 x21 x32 x33 (wrap64 (x34 + 1)) x185000 x185001 x185002 x186000 x186001) else (none)) else (none)) else (spec_faParts.l1 k x5 x6 x9 x19 x20 x21 x32 x33 (wrap64 (x34 + 1)) x185000 x185001 x185002 x186000 x186001)) else (none)) else (none)) else (if x6.length < 5864062014805 then (spec_faParts.l0 k x5 (x6 ++ [x9]) x19 x20 (wrap64 (x21 + 1)) x185000 x185001 x185002 x186000 x186001) else (none))
end
def spec_faParts.f (k : Nat) (a0_0 : Int) (a0_1 : Int) (l0_2 : List Int) (a1_0 : Int) (a1_1 : Int) : Option ((List (List Int))) := if 0 ≤ (wrap64 (a0_0 * a0_1)) then (if (wrap64 (a0_0 * a0_1) : Int).toNat ≤ 281474976710656 then ((spec_boCells.f k a0_0 a0_1 l0_2).bind fun t189 => (spec_faParts.l0 k (List.replicate (wrap64 (a0_0 * a0_1) : Int).toNat false) ([] : List (List Int)) t189 (t189.length : Int) 0 a0_0 a0_1 l0_2 a1_0 a1_1)) else (none)) else (none)
set_option maxHeartbeats 8000000 in
set_option maxRecDepth 100000 in
theorem spec_faParts.calls (k : Nat) (a0_0 : Int) (a0_1 : Int) (A0_2 : Option Addr) (c0_2 : Nat) (l0_2 : List Int) (a1_0 : Int) (a1_1 : Int) (r : List (List Int)) (w : World) (hr0_2 : Kd.C (Kd.int .i64) w A0_2 l0_2.length l0_2) (hc0_2 : l0_2.length ≤ c0_2) (h : spec_faParts.f k a0_0 a0_1 l0_2 a1_0 a1_1 = some r) :
  Calls Try.prog 27 #[.agg #[.int .i64 a0_0, .int .i64 a0_1, .slice A0_2 l0_2.length c0_2], .agg #[.int .i64 a1_0, .int .i64 a1_1]] w fun e w' => ∃ v0_ : Value, e = .returned (v0_) ∧ Kd.S (Kd.slice 3 (Kd.int .i64)) 22 w' w.heap.size (fun _ => True) v0_ r ∧ Below w.heap.size w w' := by
 have hu30 := Try.underlying30
 have hu32 := Try.underlying32
 have HR0_2 := Aside0.mk hr0_2
 have HC0_2 := Aside0.mk hc0_2
 clear hr0_2 hc0_2
 have HB := Aside0.mk (Below.refl w.heap.size w)
 have H : (if 0 ≤ (wrap64 (a0_0 * a0_1)) then (if (wrap64 (a0_0 * a0_1) : Int).toNat ≤ 281474976710656 then ((spec_boCells.f k a0_0 a0_1 l0_2).bind fun t189 => (spec_faParts.l0 k (List.replicate (wrap64 (a0_0 * a0_1) : Int).toNat false) ([] : List (List Int)) t189 (t189.length : Int) 0 a0_0 a0_1 l0_2 a1_0 a1_1)) else (none)) else (none)) = some r := h
 clear h
 obtain ⟨ji3, hji3⟩ : ∃ j_ : Int, (wrap64 (a0_0 * a0_1)) = j_ := ⟨_, rfl⟩
 replace H : (if 0 ≤ (ji3) then (if (ji3 : Int).toNat ≤ 281474976710656 then ((spec_boCells.f k a0_0 a0_1 l0_2).bind fun t189 => (spec_faParts.l0 k (List.replicate (ji3 : Int).toNat false) ([] : List (List Int)) t189 (t189.length : Int) 0 a0_0 a0_1 l0_2 a1_0 a1_1)) else (none)) else (none)) = some r := by first | (rw [hji3] at H; exact H) | (simp only [hji3] at H ⊢; exact H)
 have hji3w : (IntKind.i64.wrap (a0_0 * a0_1)) = ji3 := (i64_w _).trans hji3
 by_cases c4 : 0 ≤ (ji3)
 rotate_left
 ·rw [if_neg c4] at H
  exact absurd H (by simp)
 rw [if_pos c4] at H
 have c4b0 := eq_true c4
 have c4b1 : decide (0 ≤ (ji3)) = true := decide_eq_true c4
 clear c4
 by_cases c5 : (ji3 : Int).toNat ≤ 281474976710656
 rotate_left
 ·rw [if_neg c5] at H
  exact absurd H (by simp)
 rw [if_pos c5] at H
 have c5b0 := eq_true c5
 have c5b1 : decide ((ji3 : Int).toNat ≤ 281474976710656) = true := decide_eq_true c5
 clear c5
 obtain ⟨y186, hy186⟩ : ∃ y_ : List Bool, y_ = (List.replicate (ji3 : Int).toNat false) := ⟨_, rfl⟩
 replace H : ((spec_boCells.f k a0_0 a0_1 l0_2).bind fun t189 => (spec_faParts.l0 k y186 ([] : List (List Int)) t189 (t189.length : Int) 0 a0_0 a0_1 l0_2 a1_0 a1_1)) = some r := by first | (rw [hy186]; with_reducible exact H) | (have H2_ := (Option.bind_some _ _).symm.trans H; rw [hy186]; with_reducible exact H2_) | (have H2_ := (Option.bind_some _ _).symm.trans H; with_reducible exact H2_) | with_reducible exact H | (rw [hy186]; exact H) | exact H
 have Ny186 := Aside0.mk hy186
 clear hy186
 replace H := Option.bind_eq_some_iff.mp H
 obtain ⟨t189, A60, H⟩ := H
 replace H : (spec_faParts.l0 k y186 ([] : List (List Int)) t189 (t189.length : Int) 0 a0_0 a0_1 l0_2 a1_0 a1_1) = some r := H
 have A6 := Aside0.mk A60
 clear A60
 have H' := Aside0.mk H
 clear H
 go_enter Try.func27, Try.ntmps27
 go_wp2_with (first | ((with_reducible refine gate_dst (N := 2) rfl ?_); refine box_event ?hg (N := 2) ?hd (cs := #[.int .i64 a0_0, .int .i64 a0_1, .slice A0_2 l0_2.length c0_2]) (t := 30) ?hr ?_; (case hd => rfl); (case hg => rfl); (case hr => first | (go_simp; done) | (go_simp; rfl)); intro gb184 hg w7 hbox hb; have n0_ := Aside0.mk (below_step ze2 hb); have n1_ := Aside0.mk (hbox); have n2_ := Aside0.mk ((ze26 : w.heap.size ≤ gb184)); have n3_ := Aside0.mk ((ze26 : w.heap.size ≤ gb184)); clear HB; have HB := n0_; have BK184 := n1_; have GW184 := n2_; have GE184 := n3_; clear n0_ n1_ n2_ n3_; clear hb hbox hg) | ((with_reducible refine gate_dst (N := 3) rfl ?_); refine box_event ?hg (N := 3) ?hd (cs := #[.int .i64 a1_0, .int .i64 a1_1]) (t := 32) ?hr ?_; (case hd => rfl); (case hg => rfl); (case hr => first | (go_simp; done) | (go_simp; rfl)); intro gb185 hg w8 hbox hb; have n0_ := Aside0.mk (blk_below (g := gb184) (o := .cells #[.int .i64 a0_0, .int .i64 a0_1, .slice A0_2 l0_2.length c0_2] 30 (0, 0)) ze5 hb); have n1_ := Aside0.mk (below_step ze19 hb); have n2_ := Aside0.mk (hbox); have n3_ := Aside0.mk ((by rw [hg]; exact (below_size ze19) : w.heap.size ≤ gb185)); have n4_ := Aside0.mk ((by rw [hg]; exact (below_size ze19) : w.heap.size ≤ gb185)); have n5_ := Aside0.mk ((by rw [hg]; exact Nat.ne_of_lt (blk_lt (g := gb184) (o := .cells #[.int .i64 a0_0, .int .i64 a0_1, .slice A0_2 l0_2.length c0_2] 30 (0, 0)) ze5) : gb184 ≠ gb185)); have n6_ := Aside0.mk ((by rw [hg]; exact Nat.ne_of_gt (blk_lt (g := gb184) (o := .cells #[.int .i64 a0_0, .int .i64 a0_1, .slice A0_2 l0_2.length c0_2] 30 (0, 0)) ze5) : gb185 ≠ gb184)); clear BK184; clear HB; have BK184 := n0_; have HB := n1_; have BK185 := n2_; have GW185 := n3_; have GE185 := n4_; have NB184_185 := n5_; have NB185_184 := n6_; clear n0_ n1_ n2_ n3_ n4_ n5_ n6_; clear hb hbox hg; have hnb9 := NB184_185.out; have hnc9 := NB185_184.out; have hcz10_0 : w8.cell? ⟨gb184, 0, none⟩ = some (.int .i64 a0_0) := (blk_cell BK184.out 0).trans rfl; have hcz10_1 : w8.cell? ⟨gb184, 1, none⟩ = some (.int .i64 a0_1) := (blk_cell BK184.out 1).trans rfl; have hcz10_2 : w8.cell? ⟨gb184, 2, none⟩ = some (.slice A0_2 l0_2.length c0_2) := (blk_cell BK184.out 2).trans rfl; have hfz10_0 := blk_frozen BK184.out 0; have hfz10_1 := blk_frozen BK184.out 1; have hfz10_2 := blk_frozen BK184.out 2) | ((with_reducible refine gate_dst (N := 17) rfl ?_); refine Kd.R_make Kd.bool _ 4 rfl (N := 17) rfl 56 _ _ rfl ji3 rfl rfl Try.underlying56 (.bool false) 1 info4 rfl (by decide) (by omega) false (ok := fun _ => True) (okp := fun _ => True) rfl (fun _ hk => hk) trivial (of_decide_eq_true ze4) (Nat.le_trans (Nat.mul_le_mul_right _ (of_decide_eq_true ze4 : ji3.toNat ≤ 281474976710656)) (by omega)) (Below.refl _ _) (Nat.le_refl _) ?_; intro v187 w11 ho12 hb hg_ hnew_; clear hg_ hnew_; (first | rw [← Ny186.out] at ho12 | (simp only [Int.reduceToNat] at ho12; rw [← Ny186.out] at ho12)); have n0_ := Aside0.mk (Kd.R_lower ho12 (below_size ze1)); have n1_ := Aside0.mk (blk_below (g := gb184) (o := .cells #[.int .i64 a0_0, .int .i64 a0_1, .slice A0_2 l0_2.length c0_2] 30 (0, 0)) ze5 hb); have n2_ := Aside0.mk (blk_below (g := gb185) (o := .cells #[.int .i64 a1_0, .int .i64 a1_1] 32 (0, 0)) ze9 hb); have n3_ := Aside0.mk (below_step ze1 hb); clear BK184; clear BK185; clear HB; have HO188 := n0_; have BK184 := n1_; have BK185 := n2_; have HB := n3_; clear n0_ n1_ n2_ n3_; clear hb ho12; have hcz13_0 : w11.cell? ⟨gb184, 0, none⟩ = some (.int .i64 a0_0) := (blk_cell BK184.out 0).trans rfl; have hcz13_1 : w11.cell? ⟨gb184, 1, none⟩ = some (.int .i64 a0_1) := (blk_cell BK184.out 1).trans rfl; have hcz13_2 : w11.cell? ⟨gb184, 2, none⟩ = some (.slice A0_2 l0_2.length c0_2) := (blk_cell BK184.out 2).trans rfl; have hfz13_0 := blk_frozen BK184.out 0; have hfz13_1 := blk_frozen BK184.out 1; have hfz13_2 := blk_frozen BK184.out 2) | ((with_reducible refine gate_callee (f := 32) rfl ?_); refine goesL_ (some 19) rfl rfl Try.func32 (by kernel_rfl) rfl #[.agg #[.int .i64 a0_0, .int .i64 a0_1, .slice A0_2 l0_2.length c0_2]] rfl ze7 ?_; (with_reducible refine (spec_boCells.calls k a0_0 a0_1 _ _ l0_2 t189 _ ?side1 ?side2 A6.out).mono ?_); (case side1 => exact ze12); (case side2 => exact HC0_2.out); rintro e w14 ⟨v190, rfl, ho0, hb⟩; refine ⟨_, rfl, ?_⟩; have n0_ := Aside0.mk (Kd.R_below (by first | exact HO188.out | ((with_reducible repeat (first | apply Kd.R_alloc | apply Kd.R_drewN | apply Kd.R_drew)); exact HO188.out)) hb); have n1_ := Aside0.mk (Kd.R_lower ho0 (below_size ze1)); have n2_ := Aside0.mk (blk_below (g := gb184) (o := .cells #[.int .i64 a0_0, .int .i64 a0_1, .slice A0_2 l0_2.length c0_2] 30 (0, 0)) ze5 hb); have n3_ := Aside0.mk (blk_below (g := gb185) (o := .cells #[.int .i64 a1_0, .int .i64 a1_1] 32 (0, 0)) ze9 hb); have n4_ := Aside0.mk (below_step ze1 hb); clear HO188; clear BK184; clear BK185; clear HB; have HO188 := n0_; have HO191 := n1_; have BK184 := n2_; have BK185 := n3_; have HB := n4_; clear n0_ n1_ n2_ n3_ n4_; (try clear hb); (try clear hb2); (try clear hk); (try clear hi); (try clear ho0); (try clear hna_); (try clear hnb_); obtain ⟨Ao15, co15, eo15⟩ := Kd.R_slice HO191.out; subst eo15))
 go_loopg [6, 21] k (fun kq v6 v21 w' => ∃ (x5_1 : List Bool) (x6_1 : List (List Int)) (x21_1 : Int), v21 = .int .i64 x21_1 ∧ Aside0 (spec_faParts.l0 kq x5_1 x6_1 t189 (t189.length : Int) x21_1 a0_0 a0_1 l0_2 a1_0 a1_1 = some r) ∧ Aside0 (kq ≤ k) ∧ Aside0 (Kd.R Kd.bool 4 w' w.heap.size (fun _ => True) v187 x5_1) ∧ Aside0 (Kd.S (Kd.slice 3 (Kd.int .i64)) 22 w' w.heap.size (fun k_ => some k_ ≠ ((.slice Ao15 t189.length co15) : Value).ownBlock) v6 x6_1) ∧ Aside0 (Kd.R (Kd.int .i64) 3 w' w.heap.size (fun _ => True) (.slice Ao15 t189.length co15) t189) ∧ Aside0 (w'.heap[gb184]? = some (.cells #[.int .i64 a0_0, .int .i64 a0_1, (.slice A0_2 l0_2.length c0_2)] 30 (0, 0))) ∧ Aside0 (w'.heap[gb185]? = some (.cells #[.int .i64 a1_0, .int .i64 a1_1] 32 (0, 0))) ∧ Aside0 (Below w.heap.size w w'))
 case atStart => exact ⟨(y186), (([] : List (List Int))), (0), ze15, H', ⟨Nat.le_refl _⟩, ⟨by first | exact HO188.out | ((with_reducible repeat (first | apply Kd.R_alloc | apply Kd.R_drewN | apply Kd.R_drew)); exact HO188.out)⟩, ⟨ze25⟩, ⟨by first | exact HO191.out | ((with_reducible repeat (first | apply Kd.R_alloc | apply Kd.R_drewN | apply Kd.R_drew)); exact HO191.out)⟩, ⟨ze5⟩, ⟨ze9⟩, ⟨ze1⟩⟩
 case round =>
  clear H'
  try clear c2; try clear p2; try clear c3; try clear c4; try clear c4b0; try clear c4b1; try clear c5; try clear c5b0; try clear c5b1; try clear p6; try clear c9; try clear hcz10_0; try clear hcz10_1; try clear hcz10_2; try clear hcz13_0; try clear hcz13_1; try clear hcz13_2; try clear hfz10_0; try clear hfz10_1; try clear hfz10_2; try clear hfz13_0; try clear hfz13_1; try clear hfz13_2
  obtain ⟨x5_1, x6_1, x21_1, rfl, HA, HK1, HO_5, HO_6, HO_19, BK184, BK185, HB⟩ := hrel
  cases gk with
  | zero => exact absurd HA.out (by simp [spec_faParts.l0])
  | succ k1 =>
   have H := HA.out
   clear HA
   simp only [spec_faParts.l0] at H
   by_cases c16 : x21_1 < (t189.length : Int)
   rotate_left
   ·rw [if_neg c16] at H
    have c16b0 : decide (x21_1 < (t189.length : Int)) = false := decide_eq_false c16
    clear c16
    obtain rfl := Option.some.inj H
    go_wp2
    go_ret
    exact ⟨_, by first | rfl | (simp [errW_none, errW_some] <;> rfl) | (simp only [← hji3]; first | rfl | (simp [errW_none, errW_some] <;> rfl)) | (simp [*, errW_none, errW_some] <;> rfl), by (with_reducible repeat (first | apply Kd.S_alloc | apply Kd.S_drewN | apply Kd.S_drew)); exact Kd.S_mono HO_6.out (fun _ hk => trivial), ze1⟩
   rw [if_pos c16] at H
   have c16b0 : decide (x21_1 < (t189.length : Int)) = true := decide_eq_true c16
   clear c16
   by_cases c17 : 0 ≤ x21_1
   rotate_left
   ·rw [if_neg c17] at H
    exact absurd H (by simp)
   rw [if_pos c17] at H
   have c17b0 : decide (0 ≤ x21_1) = true := decide_eq_true c17
   clear c17
   by_cases c18 : x21_1 < (t189.length : Int)
   rotate_left
   ·rw [if_neg c18] at H
    exact absurd H (by simp)
   rw [if_pos c18] at H
   have c18b0 : decide (x21_1 < (t189.length : Int)) = true := decide_eq_true c18
   clear c18
   by_cases c19 : 0 ≤ (rd t189 x21_1)
   rotate_left
   ·rw [if_neg c19] at H
    exact absurd H (by simp)
   rw [if_pos c19] at H
   have c19b0 : decide (0 ≤ (rd t189 x21_1)) = true := decide_eq_true c19
   clear c19
   by_cases c20 : (rd t189 x21_1) < (x5_1.length : Int)
   rotate_left
   ·rw [if_neg c20] at H
    exact absurd H (by simp)
   rw [if_pos c20] at H
   have c20b0 : decide ((rd t189 x21_1) < (x5_1.length : Int)) = true := decide_eq_true c20
   clear c20
   obtain ⟨bq21, hbq21⟩ : ∃ b_ : Bool, b_ = (rdOf false x5_1 (rd t189 x21_1)) := ⟨_, rfl⟩
   replace H : (if bq21 = true then (spec_faParts.l0 k1 x5_1 x6_1 t189 (t189.length : Int) (wrap64 (x21_1 + 1)) a0_0 a0_1 l0_2 a1_0 a1_1) else ((spec_faFrom.f k1 a0_0 a0_1 l0_2 a1_0 a1_1 (rd t189 x21_1)).bind fun t194 => (spec_faParts.l1 k1 x5_1 x6_1 ([] : List Int) t189 (t189.length : Int) x21_1 t194 (t194.length : Int) 0 a0_0 a0_1 l0_2 a1_0 a1_1))) = some r := by rw [← hbq21] at H; exact H
   have Nbq21 := Aside0.mk hbq21
   clear hbq21
   by_cases c22 : bq21 = true
   ·subst c22
    have H1 : (spec_faParts.l0 k1 x5_1 x6_1 t189 (t189.length : Int) (wrap64 (x21_1 + 1)) a0_0 a0_1 l0_2 a1_0 a1_1) = some r := by rw [if_pos rfl] at H; exact H
    clear H
    have H := H1
    clear H1
    have H' := Aside0.mk H
    clear H
    have p192 : 0 ≤ (x21_1 : Int) := of_decide_eq_true ze4
    have q192 : x21_1 < (t189.length : Int) := of_decide_eq_true ze4
    obtain ⟨ad192, e192, hx192_0⟩ := Kd.at_int (Kd.R_reads' HO_19.out).2.2 x21_1 p192 q192
    cases e192
    replace p192 := eq_true p192
    replace q192 := eq_true q192
    obtain ⟨Ao23, co23, eo23⟩ := Kd.R_slice HO_5.out
    subst eo23
    have p193 : 0 ≤ ((rd t189 x21_1) : Int) := of_decide_eq_true ze4
    have q193 : (rd t189 x21_1) < (x5_1.length : Int) := of_decide_eq_true ze4
    obtain ⟨ad193, e193, hx193_0⟩ := Kd.at_bool (Kd.R_reads' HO_5.out).2.2 (rd t189 x21_1) p193 q193
    (try rw [← Nbq21.out] at hx193_0)
    cases e193
    replace p193 := eq_true p193
    replace q193 := eq_true q193
    go_wp2
    go_roundg k1
    case measure => have := HK1.out; omega
    case rel => exact ⟨(x5_1), (x6_1), (wrap64 (x21_1 + 1)), ze15, H', ⟨by have := HK1.out; omega⟩, ⟨ze18⟩, ⟨ze16⟩, ⟨ze13⟩, ⟨ze5⟩, ⟨ze9⟩, ⟨ze1⟩⟩
   replace c22 := Bool.eq_false_iff.mpr c22
   subst c22
   have H1 : ((spec_faFrom.f k1 a0_0 a0_1 l0_2 a1_0 a1_1 (rd t189 x21_1)).bind fun t194 => (spec_faParts.l1 k1 x5_1 x6_1 ([] : List Int) t189 (t189.length : Int) x21_1 t194 (t194.length : Int) 0 a0_0 a0_1 l0_2 a1_0 a1_1)) = some r := by rw [if_neg (show ¬ (false = true) by decide)] at H; exact H
   clear H
   have H := H1
   clear H1
   replace H := Option.bind_eq_some_iff.mp H
   obtain ⟨t194, A240, H⟩ := H
   replace H : (spec_faParts.l1 k1 x5_1 x6_1 ([] : List Int) t189 (t189.length : Int) x21_1 t194 (t194.length : Int) 0 a0_0 a0_1 l0_2 a1_0 a1_1) = some r := H
   have A24 := Aside0.mk A240
   clear A240
   have H' := Aside0.mk H
   clear H
   have p192 : 0 ≤ (x21_1 : Int) := of_decide_eq_true ze4
   have q192 : x21_1 < (t189.length : Int) := of_decide_eq_true ze4
   obtain ⟨ad192, e192, hx192_0⟩ := Kd.at_int (Kd.R_reads' HO_19.out).2.2 x21_1 p192 q192
   cases e192
   replace p192 := eq_true p192
   replace q192 := eq_true q192
   obtain ⟨Ao25, co25, eo25⟩ := Kd.R_slice HO_5.out
   subst eo25
   have p193 : 0 ≤ ((rd t189 x21_1) : Int) := of_decide_eq_true ze4
   have q193 : (rd t189 x21_1) < (x5_1.length : Int) := of_decide_eq_true ze4
   obtain ⟨ad193, e193, hx193_0⟩ := Kd.at_bool (Kd.R_reads' HO_5.out).2.2 (rd t189 x21_1) p193 q193
   (try rw [← Nbq21.out] at hx193_0)
   cases e193
   replace p193 := eq_true p193
   replace q193 := eq_true q193
   have hnb26 := NB184_185.out
   have hnc26 := NB185_184.out
   have hcz27_0 : wr.cell? ⟨gb184, 0, none⟩ = some (.int .i64 a0_0) := (blk_cell BK184.out 0).trans rfl
   have hcz27_1 : wr.cell? ⟨gb184, 1, none⟩ = some (.int .i64 a0_1) := (blk_cell BK184.out 1).trans rfl
   have hcz27_2 : wr.cell? ⟨gb184, 2, none⟩ = some (.slice A0_2 l0_2.length c0_2) := (blk_cell BK184.out 2).trans rfl
   have hfz27_0 := blk_frozen BK184.out 0
   have hfz27_1 := blk_frozen BK184.out 1
   have hfz27_2 := blk_frozen BK184.out 2
   have hcz28_0 : wr.cell? ⟨gb185, 0, none⟩ = some (.int .i64 a1_0) := (blk_cell BK185.out 0).trans rfl
   have hcz28_1 : wr.cell? ⟨gb185, 1, none⟩ = some (.int .i64 a1_1) := (blk_cell BK185.out 1).trans rfl
   have hfz28_0 := blk_frozen BK185.out 0
   have hfz28_1 := blk_frozen BK185.out 1
   go_wp2_with (first | ((with_reducible refine gate_callee (f := 38) rfl ?_); refine goesL_ (some 32) rfl rfl Try.func38 (by kernel_rfl) rfl #[.agg #[.int .i64 a0_0, .int .i64 a0_1, .slice A0_2 l0_2.length c0_2], .agg #[.int .i64 a1_0, .int .i64 a1_1], .int .i64 (rd t189 x21_1)] rfl ze7 ?_; (with_reducible refine (spec_faFrom.calls k1 a0_0 a0_1 _ _ l0_2 a1_0 a1_1 (rd t189 x21_1) t194 _ ?side1 ?side2 A24.out).mono ?_); (case side1 => exact ze12); (case side2 => exact HC0_2.out); rintro e w29 ⟨v195, rfl, ho0, hb⟩; refine ⟨_, rfl, ?_⟩; have n0_ := Aside0.mk (Kd.R_below ze18 hb); have n1_ := Aside0.mk (Kd.S_elder' ze16 (Kd.R_base ho0) hb); have n2_ := Aside0.mk (Kd.R_elder' ze13 (Kd.R_base ho0) hb); have n3_ := Aside0.mk (Kd.R_lower (Kd.R_new' ho0 (Kd.R_lt ze13)) (below_size ze1)); have n4_ := Aside0.mk (blk_below (g := gb184) (o := .cells #[.int .i64 a0_0, .int .i64 a0_1, .slice A0_2 l0_2.length c0_2] 30 (0, 0)) ze5 hb); have n5_ := Aside0.mk (blk_below (g := gb185) (o := .cells #[.int .i64 a1_0, .int .i64 a1_1] 32 (0, 0)) ze9 hb); have n6_ := Aside0.mk (below_step ze1 hb); clear HO_5; clear HO_6; clear HO_19; clear BK184; clear BK185; clear HB; have HO_5 := n0_; have HO_6 := n1_; have HO_19 := n2_; have HO196 := n3_; have BK184 := n4_; have BK185 := n5_; have HB := n6_; clear n0_ n1_ n2_ n3_ n4_ n5_ n6_; (try clear hb); (try clear hb2); (try clear hk); (try clear hi); (try clear ho0); (try clear hna_); (try clear hnb_); obtain ⟨Ao30, co30, eo30⟩ := Kd.R_slice HO196.out; subst eo30))
   go_loopg [9, 34] k1 (fun kq v9 v34 w' => ∃ (x5_2 : List Bool) (x9_2 : List Int) (x34_2 : Int), v34 = .int .i64 x34_2 ∧ Aside0 (spec_faParts.l1 kq x5_2 x6_1 x9_2 t189 (t189.length : Int) x21_1 t194 (t194.length : Int) x34_2 a0_0 a0_1 l0_2 a1_0 a1_1 = some r) ∧ Aside0 (kq ≤ k1) ∧ Aside0 (Kd.R Kd.bool 4 w' w.heap.size (fun _ => True) (.slice (some ad193) x5_1.length co25) x5_2) ∧ Aside0 (Kd.S (Kd.slice 3 (Kd.int .i64)) 22 w' w.heap.size (fun k_ => some k_ ≠ (v9 : Value).ownBlock ∧ some k_ ≠ ((.slice (some ad192) t189.length co15) : Value).ownBlock ∧ some k_ ≠ ((.slice Ao30 t194.length co30) : Value).ownBlock) u6 x6_1) ∧ Aside0 (Kd.R (Kd.int .i64) 3 w' w.heap.size (fun k_ => some k_ ≠ ((.slice (some ad192) t189.length co15) : Value).ownBlock ∧ some k_ ≠ ((.slice Ao30 t194.length co30) : Value).ownBlock) v9 x9_2) ∧ Aside0 (Kd.R (Kd.int .i64) 3 w' w.heap.size (fun k_ => some k_ ≠ (v9 : Value).ownBlock ∧ some k_ ≠ ((.slice Ao30 t194.length co30) : Value).ownBlock) (.slice (some ad192) t189.length co15) t189) ∧ Aside0 (Kd.R (Kd.int .i64) 3 w' w.heap.size (fun k_ => some k_ ≠ (v9 : Value).ownBlock ∧ some k_ ≠ ((.slice (some ad192) t189.length co15) : Value).ownBlock) (.slice Ao30 t194.length co30) t194) ∧ Aside0 (w'.heap[gb184]? = some (.cells #[.int .i64 a0_0, .int .i64 a0_1, (.slice A0_2 l0_2.length c0_2)] 30 (0, 0))) ∧ Aside0 (w'.heap[gb185]? = some (.cells #[.int .i64 a1_0, .int .i64 a1_1] 32 (0, 0))) ∧ Aside0 (Below w.heap.size w w'))
   case atStart => exact ⟨(x5_1), (([] : List Int)), (0), ze15, H', ⟨Nat.le_refl _⟩, ⟨ze18⟩, ⟨by (with_reducible repeat (first | apply Kd.S_alloc | apply Kd.S_drewN | apply Kd.S_drew)); exact Kd.S_mono HO_6.out (fun _ hk => ⟨(by simp [Value.ownBlock]), ⟨hk.1, hk.2⟩⟩)⟩, ⟨by first | exact Kd.R_nil _ _ _ _ _ | exact Kd.N_nil _ _ _ _ _ | exact Kd.V_nil _ _ _ _ _ | exact Kd.Q_nil _ _ _ _ _ | exact Kd.S_nil _ _ _ _ _⟩, ⟨by (with_reducible repeat (first | apply Kd.R_alloc | apply Kd.R_drewN | apply Kd.R_drew)); exact Kd.R_mono HO_19.out (fun _ hk => ⟨(by simp [Value.ownBlock]), hk.2⟩)⟩, ⟨by (with_reducible repeat (first | apply Kd.R_alloc | apply Kd.R_drewN | apply Kd.R_drew)); exact Kd.R_mono HO196.out (fun _ hk => ⟨(by simp [Value.ownBlock]), hk.2⟩)⟩, ⟨ze5⟩, ⟨ze9⟩, ⟨ze1⟩⟩
   case round =>
    clear H'
    try clear c1; try clear p1; try clear q1; try clear hx1; try clear c2; try clear p2; try clear q2; try clear c3; try clear c4; try clear c4b0; try clear c4b1; try clear c5; try clear c5b0; try clear c5b1; try clear p6; try clear c9; try clear c16; try clear c16b0; try clear c17; try clear c17b0; try clear c18; try clear c18b0; try clear c19; try clear c19b0; try clear p19; try clear q19; try clear hx19; try clear c20; try clear c20b0; try clear q21; try clear c22; try clear c26; try clear c27; try clear hcz10_0; try clear hcz10_1; try clear hcz10_2; try clear hcz13_0; try clear hcz13_1; try clear hcz13_2
    try clear hcz27_0; try clear hcz27_1; try clear hcz27_2; try clear hcz28_0; try clear hcz28_1; try clear hfz10_0; try clear hfz10_1; try clear hfz10_2; try clear hfz13_0; try clear hfz13_1; try clear hfz13_2; try clear hfz27_0; try clear hfz27_1; try clear hfz27_2; try clear hfz28_0; try clear hfz28_1; try clear hx192_0; try clear hx193_0; try clear p192; try clear p193; try clear p2; try clear p6; try clear q192; try clear q193
    obtain ⟨x5_2, x9_2, x34_2, rfl, HA, HK2, HO_5, HO_6, HO_9, HO_19, HO_32, BK184, BK185, HB⟩ := hrel
    have hl5_2 := (Kd.R_reads' HO_5.out).1
    rw [hl5_2] at HO_5
    (try simp only [hl5_2])
    (try simp only [hl5_2] at BK184)
    (try simp only [hl5_2] at BK185)
    (try simp only [hl5_2] at HO_6)
    (try simp only [hl5_2] at HO_9)
    (try simp only [hl5_2] at HO_19)
    (try simp only [hl5_2] at HO_32)
    cases gk with
    | zero => exact absurd HA.out (by simp [spec_faParts.l1])
    | succ k2 =>
     have H := HA.out
     clear HA
     simp only [spec_faParts.l1] at H
     by_cases c31 : x34_2 < (t194.length : Int)
     rotate_left
     ·rw [if_neg c31] at H
      have c31b0 : decide (x34_2 < (t194.length : Int)) = false := decide_eq_false c31
      have c31b8 := c31b0
      (try simp only [hl5_2] at c31b8)
      clear c31
      by_cases c41 : x6_1.length < 5864062014805
      rotate_left
      ·rw [if_neg c41] at H
       exact absurd H (by simp)
      rw [if_pos c41] at H
      have LMc41 := Aside0.mk c41
      clear c41
      obtain ⟨y202, hy202⟩ : ∃ y_ : List (List Int), y_ = (x6_1 ++ [x9_2]) := ⟨_, rfl⟩
      replace H : (spec_faParts.l0 k2 x5_2 y202 t189 (t189.length : Int) (wrap64 (x21_1 + 1)) a0_0 a0_1 l0_2 a1_0 a1_1) = some r := by first | (rw [hy202]; with_reducible exact H) | (have H2_ := (Option.bind_some _ _).symm.trans H; rw [hy202]; with_reducible exact H2_) | (have H2_ := (Option.bind_some _ _).symm.trans H; with_reducible exact H2_) | with_reducible exact H | (rw [hy202]; exact H) | exact H
      have Ny202 := Aside0.mk hy202
      clear hy202
      have H' := Aside0.mk H
      clear H
      obtain ⟨Ao43, co43, eo43⟩ := Kd.R_slice HO_9.out
      subst eo43
      go_wp2_with (first | ((with_reducible refine gate_builtin (b := .append) (xs := #[.tmp 49, .tmp 51]) rfl ?_); at_builtin; refine Kd.S_append (Kd.slice 3 (Kd.int .i64)) (w0 := w) w.heap.size rfl (.tmp 49) (.tmp 51) 36 22 (.slice none 0 0) 24 rfl Try.underlying36 info22 rfl (by decide) (by omega) u6 x6_1 x9_2 [.slice Ao43 x9_2.length co43] (fun k_ => some k_ ≠ (.slice (some ad192) t189.length co15 : Value).ownBlock ∧ some k_ ≠ (.slice Ao30 t194.length co30 : Value).ownBlock) (fun k_ => some k_ = (.slice Ao43 x9_2.length co43 : Value).ownBlock) rfl rfl ?aP (fun k_ hk_ => ((Kd.R_mono (ok' := fun k_ => ((fun k_ => some k_ ≠ (.slice (some ad192) t189.length co15 : Value).ownBlock ∧ some k_ ≠ (.slice Ao30 t194.length co30 : Value).ownBlock)) k_ ∧ some k_ ≠ (u6 : Value).ownBlock) (Kd.R_apart' (HO_9.out) (Kd.S_typed HO_6.out) (by decide)) (fun k_ hk => ⟨⟨hk.1.1, hk.1.2⟩, hk.2⟩))).1 k_ hk_.symm) ?aF ?aO ?aB ?aS ?aL ?_; (case aP => exact Kd.M_row (Kd.R_mono (Kd.R_tight rfl (Kd.R_mono (ok' := fun k_ => ((fun k_ => some k_ ≠ (.slice (some ad192) t189.length co15 : Value).ownBlock ∧ some k_ ≠ (.slice Ao30 t194.length co30 : Value).ownBlock)) k_ ∧ some k_ ≠ (u6 : Value).ownBlock) (Kd.R_apart' (HO_9.out) (Kd.S_typed HO_6.out) (by decide)) (fun k_ hk => ⟨⟨hk.1.1, hk.1.2⟩, hk.2⟩))) (fun _ h_ => h_))); (case aB => exact ze1); (case aF => exact (fun k_ hk => ⟨Kd.fresh' (Kd.R_lt ze13) k_ hk, Kd.fresh' (Kd.R_lt ze20) k_ hk⟩)); (case aO => exact (by (with_reducible repeat (first | apply Kd.S_alloc | apply Kd.S_drewN | apply Kd.S_drew)); exact Kd.S_mono HO_6.out (fun k_ hk => ⟨⟨hk.2.1, hk.2.2⟩, fun e_ => hk.1 e_⟩))); (case aS => exact (below_size ze1)); (case aL => have := LMc41.out; omega); intro v203 w42 ho hb hg hat; rw [← Ny202.out] at ho; have n0_ := Aside0.mk (Kd.R_over' ze18 (Kd.S_typed ze16) (by decide) hg); have n1_ := Aside0.mk (Kd.R_over' ze13 (Kd.S_typed ze16) (by decide) hg); have n2_ := Aside0.mk (Kd.R_over' ze20 (Kd.S_typed ze16) (by decide) hg); have n3_ := Aside0.mk (blk_grown (g := gb184) (o := .cells #[.int .i64 a0_0, .int .i64 a0_1, .slice A0_2 l0_2.length c0_2] 30 (0, 0)) ze5 hg (Kd.S_ne HO_6.out BK184.out (by decide))); have n4_ := Aside0.mk (blk_grown (g := gb185) (o := .cells #[.int .i64 a1_0, .int .i64 a1_1] 32 (0, 0)) ze9 hg (Kd.S_ne HO_6.out BK185.out (by decide))); have n5_ := Aside0.mk (hb); have n6_ := Aside0.mk (ho); clear HO_5; clear HO_19; clear HO_32; clear BK184; clear BK185; clear HB; clear HO_6; clear HO_9; have HO_5 := n0_; have HO_19 := n1_; have HO_32 := n2_; have BK184 := n3_; have BK185 := n4_; have HB := n5_; have HO204 := n6_; clear n0_ n1_ n2_ n3_ n4_ n5_ n6_; clear ho hb hg hat))
      (try simp only [← hl5_2])
      go_roundg k2
      case measure => have := HK1.out; have := HK2.out; omega
      case rel => exact ⟨(x5_2), (y202), (wrap64 (x21_1 + 1)), ze15, H', ⟨by have := HK1.out; have := HK2.out; omega⟩, ⟨ze23⟩, ⟨by (try simp only [hl5_2]); (with_reducible repeat (first | apply Kd.S_alloc | apply Kd.S_drewN | apply Kd.S_drew)); exact Kd.S_mono HO204.out (fun _ hk => hk.1)⟩, ⟨by (try simp only [hl5_2]); (with_reducible repeat (first | apply Kd.R_alloc | apply Kd.R_drewN | apply Kd.R_drew)); exact Kd.R_mono HO_19.out (fun _ hk => trivial)⟩, ⟨ze22⟩, ⟨ze21⟩, ⟨ze1⟩⟩
     rw [if_pos c31] at H
     have c31b0 : decide (x34_2 < (t194.length : Int)) = true := decide_eq_true c31
     have c31b8 := c31b0
     (try simp only [hl5_2] at c31b8)
     clear c31
     by_cases c32 : 0 ≤ x34_2
     rotate_left
     ·rw [if_neg c32] at H
      exact absurd H (by simp)
     rw [if_pos c32] at H
     have c32b0 : decide (0 ≤ x34_2) = true := decide_eq_true c32
     clear c32
     by_cases c33 : x34_2 < (t194.length : Int)
     rotate_left
     ·rw [if_neg c33] at H
      exact absurd H (by simp)
     rw [if_pos c33] at H
     have c33b0 : decide (x34_2 < (t194.length : Int)) = true := decide_eq_true c33
     have c33b8 := c33b0
     (try simp only [hl5_2] at c33b8)
     clear c33
     by_cases c34 : (rd t194 x34_2) ≥ 0
     rotate_left
     ·rw [if_neg c34] at H
      have c34b0 : decide (0 ≤ (rd t194 x34_2)) = false := decide_eq_false c34
      clear c34
      have H' := Aside0.mk H
      clear H
      have p197 : 0 ≤ (x34_2 : Int) := of_decide_eq_true ze4
      have q197 : x34_2 < (t194.length : Int) := of_decide_eq_true ze4
      obtain ⟨ad197, e197, hx197_0⟩ := Kd.at_int (Kd.R_reads' HO_32.out).2.2 x34_2 p197 q197
      cases e197
      replace p197 := eq_true p197
      replace q197 := eq_true q197
      go_wp2
      (try simp only [← hl5_2])
      go_roundg k2
      case measure => have := HK1.out; have := HK2.out; omega
      case rel => exact ⟨(x5_2), (x9_2), (wrap64 (x34_2 + 1)), ze15, H', ⟨by have := HK1.out; have := HK2.out; omega⟩, ⟨ze23⟩, ⟨by (try simp only [hl5_2]); first | exact HO_6.out | ((with_reducible repeat (first | apply Kd.S_alloc | apply Kd.S_drewN | apply Kd.S_drew)); exact HO_6.out)⟩, ⟨by (try simp only [hl5_2]); first | exact HO_9.out | ((with_reducible repeat (first | apply Kd.R_alloc | apply Kd.R_drewN | apply Kd.R_drew)); exact HO_9.out)⟩, ⟨by (try simp only [hl5_2]); first | exact HO_19.out | ((with_reducible repeat (first | apply Kd.R_alloc | apply Kd.R_drewN | apply Kd.R_drew)); exact HO_19.out)⟩, ⟨by (try simp only [hl5_2]); first | exact HO_32.out | ((with_reducible repeat (first | apply Kd.R_alloc | apply Kd.R_drewN | apply Kd.R_drew)); exact HO_32.out)⟩, ⟨ze22⟩, ⟨ze21⟩, ⟨ze1⟩⟩
     rw [if_pos c34] at H
     have c34b0 : decide (0 ≤ (rd t194 x34_2)) = true := decide_eq_true c34
     clear c34
     by_cases c35 : x9_2.length < 17592186044416
     rotate_left
     ·rw [if_neg c35] at H
      exact absurd H (by simp)
     rw [if_pos c35] at H
     have LMc35 := Aside0.mk c35
     clear c35
     obtain ⟨y198, hy198⟩ : ∃ y_ : List Int, y_ = (x9_2 ++ [x34_2]) := ⟨_, rfl⟩
     replace H : (if x34_2 < (x5_2.length : Int) then (spec_faParts.l1 k2 (x5_2.set (x34_2 : Int).toNat true) x6_1 y198 t189 (t189.length : Int) x21_1 t194 (t194.length : Int) (wrap64 (x34_2 + 1)) a0_0 a0_1 l0_2 a1_0 a1_1) else (none)) = some r := by first | (rw [hy198]; with_reducible exact H) | (have H2_ := (Option.bind_some _ _).symm.trans H; rw [hy198]; with_reducible exact H2_) | (have H2_ := (Option.bind_some _ _).symm.trans H; with_reducible exact H2_) | with_reducible exact H | (rw [hy198]; exact H) | exact H
     have Ny198 := Aside0.mk hy198
     clear hy198
     by_cases c36 : x34_2 < (x5_2.length : Int)
     rotate_left
     ·rw [if_neg c36] at H
      exact absurd H (by simp)
     rw [if_pos c36] at H
     have c36b0 : decide (x34_2 < (x5_2.length : Int)) = true := decide_eq_true c36
     have c36b8 := c36b0
     (try simp only [hl5_2] at c36b8)
     clear c36
     obtain ⟨y201, hy201⟩ : ∃ y_ : List Bool, y_ = (x5_2.set (x34_2 : Int).toNat true) := ⟨_, rfl⟩
     replace H : (spec_faParts.l1 k2 y201 x6_1 y198 t189 (t189.length : Int) x21_1 t194 (t194.length : Int) (wrap64 (x34_2 + 1)) a0_0 a0_1 l0_2 a1_0 a1_1) = some r := by first | (rw [hy201]; with_reducible exact H) | (have H2_ := (Option.bind_some _ _).symm.trans H; rw [hy201]; with_reducible exact H2_) | (have H2_ := (Option.bind_some _ _).symm.trans H; with_reducible exact H2_) | with_reducible exact H | (rw [hy201]; exact H) | exact H
     have Ny201 := Aside0.mk hy201
     clear hy201
     have H' := Aside0.mk H
     clear H
     have p197 : 0 ≤ (x34_2 : Int) := of_decide_eq_true ze4
     have q197 : x34_2 < (t194.length : Int) := of_decide_eq_true ze4
     obtain ⟨ad197, e197, hx197_0⟩ := Kd.at_int (Kd.R_reads' HO_32.out).2.2 x34_2 p197 q197
     cases e197
     replace p197 := eq_true p197
     replace q197 := eq_true q197
     go_wp2_with (first | ((with_reducible refine gate_builtin (b := .append) (xs := #[.tmp 41, .tmp 43]) rfl ?_); at_builtin; refine Kd.R_append (Kd.int .i64) (w0 := w) w.heap.size rfl (.tmp 41) (.tmp 43) 22 3 (.int .i64 0) 8 rfl Try.underlying22 info3 rfl (by decide) (by omega) u9 x9_2 x34_2 [.int .i64 x34_2] (fun k_ => some k_ ≠ (.slice (some ad192) t189.length co15 : Value).ownBlock ∧ some k_ ≠ (.slice (some ad197) t194.length co30 : Value).ownBlock) (fun _ => False) rfl rfl ?aP (fun _ hk => hk.elim) ?aF ?aO ?aB ?aS ?aL ?_; (case aP => exact rfl); (case aB => exact ze1); (case aF => exact (fun k_ hk => ⟨Kd.fresh' (Kd.R_lt ze13) k_ hk, Kd.fresh' (Kd.R_lt ze20) k_ hk⟩)); (case aO => exact (by first | exact HO_9.out | ((with_reducible repeat (first | apply Kd.R_alloc | apply Kd.R_drewN | apply Kd.R_drew)); exact HO_9.out))); (case aS => exact (below_size ze1)); (case aL => have := LMc35.out; omega); intro v199 w38 ho hb hg hat; rw [← Ny198.out] at ho; have n0_ := Aside0.mk (Kd.R_over' ze18 (Kd.R_typed (by first | exact HO_9.out | ((with_reducible repeat (first | apply Kd.R_alloc | apply Kd.R_drewN | apply Kd.R_drew)); exact HO_9.out))) (by decide) hg); have n1_ := Aside0.mk (Kd.S_after (ok := (fun k_ => some k_ ≠ (.slice (some ad192) t189.length co15 : Value).ownBlock ∧ some k_ ≠ (.slice (some ad197) t194.length co30 : Value).ownBlock)) (by (with_reducible repeat (first | apply Kd.S_alloc | apply Kd.S_drewN | apply Kd.S_drew)); exact Kd.S_mono HO_6.out (fun _ hk => ⟨⟨hk.2.1, hk.2.2⟩, hk.1⟩)) hg hat); have n2_ := Aside0.mk (Kd.R_after (ok := (fun k_ => some k_ ≠ (.slice (some ad197) t194.length co30 : Value).ownBlock)) (by (with_reducible repeat (first | apply Kd.R_alloc | apply Kd.R_drewN | apply Kd.R_drew)); exact Kd.R_mono HO_19.out (fun _ hk => ⟨hk.2, hk.1⟩)) hg hat); have n3_ := Aside0.mk (Kd.R_after (ok := (fun k_ => some k_ ≠ (.slice (some ad192) t189.length co15 : Value).ownBlock)) (by (with_reducible repeat (first | apply Kd.R_alloc | apply Kd.R_drewN | apply Kd.R_drew)); exact Kd.R_mono HO_32.out (fun _ hk => ⟨hk.2, hk.1⟩)) hg hat); have n4_ := Aside0.mk (blk_grown (g := gb184) (o := .cells #[.int .i64 a0_0, .int .i64 a0_1, .slice A0_2 l0_2.length c0_2] 30 (0, 0)) ze5 hg (Kd.R_ne HO_9.out BK184.out (by decide))); have n5_ := Aside0.mk (blk_grown (g := gb185) (o := .cells #[.int .i64 a1_0, .int .i64 a1_1] 32 (0, 0)) ze9 hg (Kd.R_ne HO_9.out BK185.out (by decide))); have n6_ := Aside0.mk (hb); have n7_ := Aside0.mk (ho); clear HO_5; clear HO_6; clear HO_19; clear HO_32; clear BK184; clear BK185; clear HB; clear HO_9; have HO_5 := n0_; have HO_6 := n1_; have HO_19 := n2_; have HO_32 := n3_; have BK184 := n4_; have BK185 := n5_; have HB := n6_; have HO200 := n7_; clear n0_ n1_ n2_ n3_ n4_ n5_ n6_ n7_; clear ho hb hg hat; have p37 : 0 ≤ (x34_2 : Int) := of_decide_eq_true ze4; have q37 : (x34_2 : Int) < ((x5_2.length : Int) : Int) := of_decide_eq_true ze4; obtain ⟨go37, co37, eo37, gb37, gl37, cl37, HG37⟩ := Kd.R_form HO_5.out (by omega); (first | cases eo37 | (injection eo37 with ea_ en_ ec_; (first | subst ea_ | (injection ea_ with ea_; subst ea_)); subst ec_; clear en_)); have GB37 := Aside0.mk gb37; have GG37 := Aside0.mk HG37; clear gb37 gl37 HG37; (try simp only [add_plain] at *); (first | simp only [add_plain] at hx193_0 | skip); obtain ⟨hx37_0, hf37_0⟩ := Kd.R_celln false HO_5.out (x34_2 : Int) p37 q37; replace p37 := eq_true p37; replace q37 := eq_true q37; obtain ⟨hy39_, hz39_⟩ := Kd.R_celln false HO_5.out (x34_2 : Int) (of_decide_eq_true ze4) (of_decide_eq_true ze4); have HP39 := Kd.R_putg HO_5.out (x34_2 : Int) true) | ((with_reducible refine gate_store (t := 4) (p := 47) rfl ?_); refine store_event (t := 4) (p := 47) (v := ?vo_w40) (w1 := (w38.setCell ⟨go37, (x34_2 : Int).toNat, none⟩ (.bool true))) ?hg ?ho ?hn ?hr ?_; (case ho => rfl); (case hg => rfl); (case hn => rfl); (case hr => first | (go_simp; done) | (go_simp; rfl)); intro w40 hw; have hg : w38.grownBy w40 (some go37) := (by rw [hw]; exact HP39.2); have hp_ : Kd.R Kd.bool 4 w40 w.heap.size (fun _ => True) (.slice (some ⟨go37, 0, none⟩) x5_2.length co25) y201 := (by rw [hw, Ny201.out]; exact HP39.1); clear HP39; have n0_ := Aside0.mk (hp_); have n1_ := Aside0.mk (Kd.S_over' (v := (.slice (some ⟨go37, 0, none⟩) x5_2.length co25)) ze16 (Kd.R_typed HO_5.out) (by decide) hg); have n2_ := Aside0.mk (Kd.R_over' (v := (.slice (some ⟨go37, 0, none⟩) x5_2.length co25)) ze13 (Kd.R_typed HO_5.out) (by decide) hg); have n3_ := Aside0.mk (Kd.R_over' (v := (.slice (some ⟨go37, 0, none⟩) x5_2.length co25)) ze20 (Kd.R_typed HO_5.out) (by decide) hg); have n4_ := Aside0.mk (blk_grown (g := gb184) (o := .cells #[.int .i64 a0_0, .int .i64 a0_1, .slice A0_2 l0_2.length c0_2] 30 (0, 0)) ze5 hg (Kd.R_ne HO_5.out BK184.out (by decide))); have n5_ := Aside0.mk (blk_grown (g := gb185) (o := .cells #[.int .i64 a1_0, .int .i64 a1_1] 32 (0, 0)) ze9 hg (Kd.R_ne HO_5.out BK185.out (by decide))); have n6_ := Aside0.mk (Kd.R_over' (v := (.slice (some ⟨go37, 0, none⟩) x5_2.length co25)) (by first | exact HO200.out | ((with_reducible repeat (first | apply Kd.R_alloc | apply Kd.R_drewN | apply Kd.R_drew)); exact HO200.out)) (Kd.R_typed HO_5.out) (by decide) hg); have n7_ := Aside0.mk ((by rw [hw]; exact below_set (HB.out) GB37.out : Below w.heap.size w w40)); clear HO_5; clear HO_6; clear HO_19; clear HO_32; clear BK184; clear BK185; clear HO200; clear HB; have HO_5 := n0_; have HO_6 := n1_; have HO_19 := n2_; have HO_32 := n3_; have BK184 := n4_; have BK185 := n5_; have HO200 := n6_; have HB := n7_; clear n0_ n1_ n2_ n3_ n4_ n5_ n6_ n7_; clear hg hw hp_))
     (try simp only [← hl5_2])
     go_roundg k2
     case measure => have := HK1.out; have := HK2.out; omega
     case rel => exact ⟨(y201), (y198), (wrap64 (x34_2 + 1)), ze15, H', ⟨by have := HK1.out; have := HK2.out; omega⟩, ⟨ze23⟩, ⟨by (try simp only [hl5_2]); (with_reducible repeat (first | apply Kd.S_alloc | apply Kd.S_drewN | apply Kd.S_drew)); exact Kd.S_mono HO_6.out (fun _ hk => ⟨hk.2, ⟨hk.1.1, hk.1.2⟩⟩)⟩, ⟨by (try simp only [hl5_2]); first | exact HO200.out | ((with_reducible repeat (first | apply Kd.R_alloc | apply Kd.R_drewN | apply Kd.R_drew)); exact HO200.out)⟩, ⟨by (try simp only [hl5_2]); (with_reducible repeat (first | apply Kd.R_alloc | apply Kd.R_drewN | apply Kd.R_drew)); exact Kd.R_mono HO_19.out (fun _ hk => ⟨hk.2, hk.1⟩)⟩, ⟨by (try simp only [hl5_2]); (with_reducible repeat (first | apply Kd.R_alloc | apply Kd.R_drewN | apply Kd.R_drew)); exact Kd.R_mono HO_32.out (fun _ hk => ⟨hk.2, hk.1⟩)⟩, ⟨ze22⟩, ⟨ze21⟩, ⟨ze1⟩⟩

/-! ### spec_PartsOfBoard: function 11 -/
def spec_PartsOfBoard.f (k : Nat) (a0_0 : Int) (a0_1 : Int) (l0_2 : List Int) (a1_0 : Int) (a1_1 : Int) : Option ((List (List Int)) × Bool) := (spec_boTwo.f k a0_0 a0_1 l0_2 a1_0 a1_1).bind fun t207 => (if t207 = true then ((spec_faParts.f k a0_0 a0_1 l0_2 a1_0 a1_1).bind fun t208 => (some (t208, true))) else (some (([] : List (List Int)), false)))
set_option maxHeartbeats 8000000 in
set_option maxRecDepth 100000 in
theorem spec_PartsOfBoard.calls (k : Nat) (a0_0 : Int) (a0_1 : Int) (A0_2 : Option Addr) (c0_2 : Nat) (l0_2 : List Int) (a1_0 : Int) (a1_1 : Int) (r1 : List (List Int)) (r2 : Bool) (w : World) (hr0_2 : Kd.C (Kd.int .i64) w A0_2 l0_2.length l0_2) (hc0_2 : l0_2.length ≤ c0_2) (h : spec_PartsOfBoard.f k a0_0 a0_1 l0_2 a1_0 a1_1 = some (r1, r2)) :
  Calls Try.prog 11 #[.agg #[.int .i64 a0_0, .int .i64 a0_1, .slice A0_2 l0_2.length c0_2], .agg #[.int .i64 a1_0, .int .i64 a1_1]] w fun e w' => ∃ v0_ : Value, e = .returned (.tuple #[v0_, .bool r2]) ∧ Kd.S (Kd.slice 3 (Kd.int .i64)) 22 w' w.heap.size (fun _ => True) v0_ r1 ∧ Below w.heap.size w w' := by
 have hu30 := Try.underlying30
 have hu32 := Try.underlying32
 have HR0_2 := Aside0.mk hr0_2
 have HC0_2 := Aside0.mk hc0_2
 clear hr0_2 hc0_2
 have HB := Aside0.mk (Below.refl w.heap.size w)
 have H : ((spec_boTwo.f k a0_0 a0_1 l0_2 a1_0 a1_1).bind fun t207 => (if t207 = true then ((spec_faParts.f k a0_0 a0_1 l0_2 a1_0 a1_1).bind fun t208 => (some (t208, true))) else (some (([] : List (List Int)), false)))) = some (r1, r2) := h
 clear h
 replace H := Option.bind_eq_some_iff.mp H
 obtain ⟨t207, A30, H⟩ := H
 replace H : (if t207 = true then ((spec_faParts.f k a0_0 a0_1 l0_2 a1_0 a1_1).bind fun t208 => (some (t208, true))) else (some (([] : List (List Int)), false))) = some (r1, r2) := H
 have A3 := Aside0.mk A30
 clear A30
 by_cases c4 : t207 = true
 rotate_left
 ·replace c4 := Bool.eq_false_iff.mpr c4
  subst c4
  have H1 : (some (([] : List (List Int)), false)) = some (r1, r2) := by rw [if_neg (show ¬ (false = true) by decide)] at H; exact H
  clear H
  have H := H1
  clear H1
  simp only [Option.some.injEq, Prod.mk.injEq] at H
  obtain ⟨rfl, rfl⟩ := H
  go_enter Try.func11, Try.ntmps11
  go_wp2_with (first | ((with_reducible refine gate_dst (N := 2) rfl ?_); refine box_event ?hg (N := 2) ?hd (cs := #[.int .i64 a0_0, .int .i64 a0_1, .slice A0_2 l0_2.length c0_2]) (t := 30) ?hr ?_; (case hd => rfl); (case hg => rfl); (case hr => first | (go_simp; done) | (go_simp; rfl)); intro gb205 hg w15 hbox hb; have n0_ := Aside0.mk (below_step ze2 hb); have n1_ := Aside0.mk (hbox); have n2_ := Aside0.mk ((ze26 : w.heap.size ≤ gb205)); have n3_ := Aside0.mk ((ze26 : w.heap.size ≤ gb205)); clear HB; have HB := n0_; have BK205 := n1_; have GW205 := n2_; have GE205 := n3_; clear n0_ n1_ n2_ n3_; clear hb hbox hg) | ((with_reducible refine gate_dst (N := 3) rfl ?_); refine box_event ?hg (N := 3) ?hd (cs := #[.int .i64 a1_0, .int .i64 a1_1]) (t := 32) ?hr ?_; (case hd => rfl); (case hg => rfl); (case hr => first | (go_simp; done) | (go_simp; rfl)); intro gb206 hg w16 hbox hb; have n0_ := Aside0.mk (blk_below (g := gb205) (o := .cells #[.int .i64 a0_0, .int .i64 a0_1, .slice A0_2 l0_2.length c0_2] 30 (0, 0)) ze8 hb); have n1_ := Aside0.mk (below_step ze11 hb); have n2_ := Aside0.mk (hbox); have n3_ := Aside0.mk ((by rw [hg]; exact (below_size ze11) : w.heap.size ≤ gb206)); have n4_ := Aside0.mk ((by rw [hg]; exact (below_size ze11) : w.heap.size ≤ gb206)); have n5_ := Aside0.mk ((ze27 : gb205 ≠ gb206)); have n6_ := Aside0.mk ((ze28 : gb206 ≠ gb205)); clear BK205; clear HB; have BK205 := n0_; have HB := n1_; have BK206 := n2_; have GW206 := n3_; have GE206 := n4_; have NB205_206 := n5_; have NB206_205 := n6_; clear n0_ n1_ n2_ n3_ n4_ n5_ n6_; clear hb hbox hg; have hnb17 := NB205_206.out; have hnc17 := NB206_205.out; have hcz18_0 : w16.cell? ⟨gb205, 0, none⟩ = some (.int .i64 a0_0) := (blk_cell BK205.out 0).trans rfl; have hcz18_1 : w16.cell? ⟨gb205, 1, none⟩ = some (.int .i64 a0_1) := (blk_cell BK205.out 1).trans rfl; have hcz18_2 : w16.cell? ⟨gb205, 2, none⟩ = some (.slice A0_2 l0_2.length c0_2) := (blk_cell BK205.out 2).trans rfl; have hfz18_0 := blk_frozen BK205.out 0; have hfz18_1 := blk_frozen BK205.out 1; have hfz18_2 := blk_frozen BK205.out 2; have hcz19_0 : w16.cell? ⟨gb206, 0, none⟩ = some (.int .i64 a1_0) := (blk_cell BK206.out 0).trans rfl; have hcz19_1 : w16.cell? ⟨gb206, 1, none⟩ = some (.int .i64 a1_1) := (blk_cell BK206.out 1).trans rfl; have hfz19_0 := blk_frozen BK206.out 0; have hfz19_1 := blk_frozen BK206.out 1) | ((with_reducible refine gate_callee (f := 26) rfl ?_); refine goesL_ (some 8) rfl rfl Try.func26 (by kernel_rfl) rfl #[.agg #[.int .i64 a0_0, .int .i64 a0_1, .slice A0_2 l0_2.length c0_2], .agg #[.int .i64 a1_0, .int .i64 a1_1]] rfl ze7 ?_; (with_reducible refine (spec_boTwo.calls k a0_0 a0_1 _ _ l0_2 a1_0 a1_1 false _ ?side1 ?side2 A3.out).mono ?_); (case side1 => exact ze12); (case side2 => exact HC0_2.out); rintro e w20 ⟨rfl, hb⟩; refine ⟨_, rfl, ?_⟩; have n0_ := Aside0.mk (blk_below (g := gb205) (o := .cells #[.int .i64 a0_0, .int .i64 a0_1, .slice A0_2 l0_2.length c0_2] 30 (0, 0)) ze8 hb); have n1_ := Aside0.mk (blk_below (g := gb206) (o := .cells #[.int .i64 a1_0, .int .i64 a1_1] 32 (0, 0)) ze24 hb); have n2_ := Aside0.mk (below_step ze6 hb); clear BK205; clear BK206; clear HB; have BK205 := n0_; have BK206 := n1_; have HB := n2_; clear n0_ n1_ n2_; (try clear hb); (try clear hb2); (try clear hk); (try clear hi); (try clear hna_); (try clear hnb_)))
  go_ret2
  exact ⟨_, ze10, ze25, ze6⟩
 subst c4
 have H1 : ((spec_faParts.f k a0_0 a0_1 l0_2 a1_0 a1_1).bind fun t208 => (some (t208, true))) = some (r1, r2) := by rw [if_pos rfl] at H; exact H
 clear H
 have H := H1
 clear H1
 replace H := Option.bind_eq_some_iff.mp H
 obtain ⟨t208, A50, H⟩ := H
 replace H : (some (t208, true)) = some (r1, r2) := H
 have A5 := Aside0.mk A50
 clear A50
 simp only [Option.some.injEq, Prod.mk.injEq] at H
 obtain ⟨rfl, rfl⟩ := H
 go_enter Try.func11, Try.ntmps11
 go_wp2_with (first | ((with_reducible refine gate_dst (N := 2) rfl ?_); refine box_event ?hg (N := 2) ?hd (cs := #[.int .i64 a0_0, .int .i64 a0_1, .slice A0_2 l0_2.length c0_2]) (t := 30) ?hr ?_; (case hd => rfl); (case hg => rfl); (case hr => first | (go_simp; done) | (go_simp; rfl)); intro gb205 hg w6 hbox hb; have n0_ := Aside0.mk (below_step ze2 hb); have n1_ := Aside0.mk (hbox); have n2_ := Aside0.mk ((ze26 : w.heap.size ≤ gb205)); have n3_ := Aside0.mk ((ze26 : w.heap.size ≤ gb205)); clear HB; have HB := n0_; have BK205 := n1_; have GW205 := n2_; have GE205 := n3_; clear n0_ n1_ n2_ n3_; clear hb hbox hg) | ((with_reducible refine gate_dst (N := 3) rfl ?_); refine box_event ?hg (N := 3) ?hd (cs := #[.int .i64 a1_0, .int .i64 a1_1]) (t := 32) ?hr ?_; (case hd => rfl); (case hg => rfl); (case hr => first | (go_simp; done) | (go_simp; rfl)); intro gb206 hg w7 hbox hb; have n0_ := Aside0.mk (blk_below (g := gb205) (o := .cells #[.int .i64 a0_0, .int .i64 a0_1, .slice A0_2 l0_2.length c0_2] 30 (0, 0)) ze8 hb); have n1_ := Aside0.mk (below_step ze11 hb); have n2_ := Aside0.mk (hbox); have n3_ := Aside0.mk ((by rw [hg]; exact (below_size ze11) : w.heap.size ≤ gb206)); have n4_ := Aside0.mk ((by rw [hg]; exact (below_size ze11) : w.heap.size ≤ gb206)); have n5_ := Aside0.mk ((ze27 : gb205 ≠ gb206)); have n6_ := Aside0.mk ((ze28 : gb206 ≠ gb205)); clear BK205; clear HB; have BK205 := n0_; have HB := n1_; have BK206 := n2_; have GW206 := n3_; have GE206 := n4_; have NB205_206 := n5_; have NB206_205 := n6_; clear n0_ n1_ n2_ n3_ n4_ n5_ n6_; clear hb hbox hg; have hnb8 := NB205_206.out; have hnc8 := NB206_205.out; have hcz9_0 : w7.cell? ⟨gb205, 0, none⟩ = some (.int .i64 a0_0) := (blk_cell BK205.out 0).trans rfl; have hcz9_1 : w7.cell? ⟨gb205, 1, none⟩ = some (.int .i64 a0_1) := (blk_cell BK205.out 1).trans rfl; have hcz9_2 : w7.cell? ⟨gb205, 2, none⟩ = some (.slice A0_2 l0_2.length c0_2) := (blk_cell BK205.out 2).trans rfl; have hfz9_0 := blk_frozen BK205.out 0; have hfz9_1 := blk_frozen BK205.out 1; have hfz9_2 := blk_frozen BK205.out 2; have hcz10_0 : w7.cell? ⟨gb206, 0, none⟩ = some (.int .i64 a1_0) := (blk_cell BK206.out 0).trans rfl; have hcz10_1 : w7.cell? ⟨gb206, 1, none⟩ = some (.int .i64 a1_1) := (blk_cell BK206.out 1).trans rfl; have hfz10_0 := blk_frozen BK206.out 0; have hfz10_1 := blk_frozen BK206.out 1) | ((with_reducible refine gate_callee (f := 26) rfl ?_); refine goesL_ (some 8) rfl rfl Try.func26 (by kernel_rfl) rfl #[.agg #[.int .i64 a0_0, .int .i64 a0_1, .slice A0_2 l0_2.length c0_2], .agg #[.int .i64 a1_0, .int .i64 a1_1]] rfl ze7 ?_; (with_reducible refine (spec_boTwo.calls k a0_0 a0_1 _ _ l0_2 a1_0 a1_1 true _ ?side1 ?side2 A3.out).mono ?_); (case side1 => exact ze12); (case side2 => exact HC0_2.out); rintro e w11 ⟨rfl, hb⟩; refine ⟨_, rfl, ?_⟩; have n0_ := Aside0.mk (blk_below (g := gb205) (o := .cells #[.int .i64 a0_0, .int .i64 a0_1, .slice A0_2 l0_2.length c0_2] 30 (0, 0)) ze8 hb); have n1_ := Aside0.mk (blk_below (g := gb206) (o := .cells #[.int .i64 a1_0, .int .i64 a1_1] 32 (0, 0)) ze24 hb); have n2_ := Aside0.mk (below_step ze6 hb); clear BK205; clear BK206; clear HB; have BK205 := n0_; have BK206 := n1_; have HB := n2_; clear n0_ n1_ n2_; (try clear hb); (try clear hb2); (try clear hk); (try clear hi); (try clear hna_); (try clear hnb_); have hcz12_0 : w11.cell? ⟨gb205, 0, none⟩ = some (.int .i64 a0_0) := (blk_cell BK205.out 0).trans rfl; have hcz12_1 : w11.cell? ⟨gb205, 1, none⟩ = some (.int .i64 a0_1) := (blk_cell BK205.out 1).trans rfl; have hcz12_2 : w11.cell? ⟨gb205, 2, none⟩ = some (.slice A0_2 l0_2.length c0_2) := (blk_cell BK205.out 2).trans rfl; have hfz12_0 := blk_frozen BK205.out 0; have hfz12_1 := blk_frozen BK205.out 1; have hfz12_2 := blk_frozen BK205.out 2; have hcz13_0 : w11.cell? ⟨gb206, 0, none⟩ = some (.int .i64 a1_0) := (blk_cell BK206.out 0).trans rfl; have hcz13_1 : w11.cell? ⟨gb206, 1, none⟩ = some (.int .i64 a1_1) := (blk_cell BK206.out 1).trans rfl; have hfz13_0 := blk_frozen BK206.out 0; have hfz13_1 := blk_frozen BK206.out 1) | ((with_reducible refine gate_callee (f := 27) rfl ?_); refine goesL_ (some 12) rfl rfl Try.func27 (by kernel_rfl) rfl #[.agg #[.int .i64 a0_0, .int .i64 a0_1, .slice A0_2 l0_2.length c0_2], .agg #[.int .i64 a1_0, .int .i64 a1_1]] rfl ze7 ?_; (with_reducible refine (spec_faParts.calls k a0_0 a0_1 _ _ l0_2 a1_0 a1_1 t208 _ ?side1 ?side2 A5.out).mono ?_); (case side1 => exact ze12); (case side2 => exact HC0_2.out); rintro e w14 ⟨v209, rfl, ho0, hb⟩; refine ⟨_, rfl, ?_⟩; have n0_ := Aside0.mk (Kd.S_lower ho0 (below_size ze6)); have n1_ := Aside0.mk (blk_below (g := gb205) (o := .cells #[.int .i64 a0_0, .int .i64 a0_1, .slice A0_2 l0_2.length c0_2] 30 (0, 0)) ze8 hb); have n2_ := Aside0.mk (blk_below (g := gb206) (o := .cells #[.int .i64 a1_0, .int .i64 a1_1] 32 (0, 0)) ze24 hb); have n3_ := Aside0.mk (below_step ze6 hb); clear BK205; clear BK206; clear HB; have HO210 := n0_; have BK205 := n1_; have BK206 := n2_; have HB := n3_; clear n0_ n1_ n2_ n3_; (try clear hb); (try clear hb2); (try clear hk); (try clear hi); (try clear ho0); (try clear hna_); (try clear hnb_)))
 go_ret2
 exact ⟨_, ze10, by first | exact HO210.out | ((with_reducible repeat (first | apply Kd.S_alloc | apply Kd.S_drewN | apply Kd.S_drew)); exact HO210.out), ze6⟩

/-! ### impl_sized: function 51 -/
def impl_sized.f (a0 : Int) : Option (Bool) := if a0 ≥ 1 then (some (decide (a0 ≤ 8))) else (some false)
set_option maxHeartbeats 8000000 in
set_option maxRecDepth 100000 in
theorem impl_sized.calls (a0 : Int) (r : Bool) (w : World) (h : impl_sized.f a0 = some r) :
  Calls Try.prog 51 #[.int .i64 a0] w fun e w' => e = .returned (.bool r) ∧ Drawn0 w w' := by
 have H : (if a0 ≥ 1 then (some (decide (a0 ≤ 8))) else (some false)) = some r := h
 clear h
 by_cases c2 : a0 ≥ 1
 ·rw [if_pos c2] at H
  have c2b0 : decide (1 ≤ a0) = true := decide_eq_true c2
  clear c2
  obtain rfl := Option.some.inj H
  go_enter Try.func51, Try.ntmps51
  go_wp2
  go_ret
  exact ⟨ze15, by repeat (first | exact Drawn0.refl _ | apply Drawn0.step)⟩
 rw [if_neg c2] at H
 have c2b0 : decide (1 ≤ a0) = false := decide_eq_false c2
 clear c2
 obtain rfl := Option.some.inj H
 go_enter Try.func51, Try.ntmps51
 go_wp2
 go_ret
 exact ⟨ze15, by repeat (first | exact Drawn0.refl _ | apply Drawn0.step)⟩

/-! ### impl_IsBoard: function 39 -/
mutual
def impl_IsBoard.j0 : Nat → Bool → Int → Int → List Int → Option (Bool)
 | 0, _, _, _, _ => none
 | k + 1, x25, x212000, x212001, x212002 => if x25 = true then (some false) else (impl_IsBoard.l0 k x212002 (x212002.length : Int) 0 x212000 x212001 x212002)
def impl_IsBoard.l0 : Nat → List Int → Int → Int → Int → Int → List Int → Option (Bool)
 | 0, _, _, _, _, _, _ => none
 | k + 1, x27, x28, x29, x212000, x212001, x212002 => if x29 < x28 then (if 0 ≤ x29 then (if x29 < (x27.length : Int) then (if (rd x27 x29) < 0 then (some false) else (if (rd x27 x29) ≥ (wrap64 (x212000 * x212001)) then (some false) else (if x29 > 0 then (if 0 ≤ (wrap64 (x29 - 1)) then (if (wrap64 (x29 - 1)) < (x212002.length : Int) then (if (rd x212002 (wrap64 (x29 - 1))) ≥ (rd x27 x29) then (some false) else (impl_IsBoard.l0 k x27 x28 (wrap64 (x29 + 1)) x212000 x212001 x212002)) else (none)) else (none)) else (impl_IsBoard.l0 k x27 x28 (wrap64 (x29 + 1)) x212000 x212001 x212002)))) else (none)) else (none)) else (some true)
end
def impl_IsBoard.f (k : Nat) (a0_0 : Int) (a0_1 : Int) (l0_2 : List Int) : Option (Bool) := (impl_sized.f a0_0).bind fun t212 => (if t212 = true then ((impl_sized.f a0_1).bind fun t213 => (if t213 = true then (impl_IsBoard.j0 k (decide ((l0_2.length : Int) ≥ (wrap64 (a0_0 * a0_1)))) a0_0 a0_1 l0_2) else (impl_IsBoard.j0 k true a0_0 a0_1 l0_2))) else (impl_IsBoard.j0 k true a0_0 a0_1 l0_2))
set_option maxHeartbeats 8000000 in
set_option maxRecDepth 100000 in
theorem impl_IsBoard.calls (k : Nat) (a0_0 : Int) (a0_1 : Int) (A0_2 : Option Addr) (c0_2 : Nat) (l0_2 : List Int) (r : Bool) (w : World) (hr0_2 : Kd.C (Kd.int .i64) w A0_2 l0_2.length l0_2) (hc0_2 : l0_2.length ≤ c0_2) (h : impl_IsBoard.f k a0_0 a0_1 l0_2 = some r) :
  Calls Try.prog 39 #[.agg #[.int .i64 a0_0, .int .i64 a0_1, .slice A0_2 l0_2.length c0_2]] w fun e w' => e = .returned (.bool r) ∧ Below w.heap.size w w' := by
 have hu30 := Try.underlying30
 have HR0_2 := Aside0.mk hr0_2
 have HC0_2 := Aside0.mk hc0_2
 clear hr0_2 hc0_2
 have HB := Aside0.mk (Below.refl w.heap.size w)
 have H : ((impl_sized.f a0_0).bind fun t212 => (if t212 = true then ((impl_sized.f a0_1).bind fun t213 => (if t213 = true then (impl_IsBoard.j0 k (decide ((l0_2.length : Int) ≥ (wrap64 (a0_0 * a0_1)))) a0_0 a0_1 l0_2) else (impl_IsBoard.j0 k true a0_0 a0_1 l0_2))) else (impl_IsBoard.j0 k true a0_0 a0_1 l0_2))) = some r := h
 clear h
 have HC2 := Aside0.mk H
 clear H
 go_enter Try.func39, Try.ntmps39
 go_upto_region 1 with (first | ((with_reducible refine gate_dst (N := 1) rfl ?_); (try (refine gate_guard (by rfl) ?_; dsimp only)); refine box_event ?hg (N := 1) ?hd (cs := #[.int .i64 a0_0, .int .i64 a0_1, .slice A0_2 l0_2.length c0_2]) (t := 30) ?hr ?_; (case hd => rfl); (case hg => rfl); (case hr => first | (go_simp; done) | (go_simp; rfl)); intro gb211 hg w3 hbox hb; have n0_ := Aside0.mk (below_step ze2 hb); have n1_ := Aside0.mk (hbox); have n2_ := Aside0.mk ((ze26 : w.heap.size ≤ gb211)); have n3_ := Aside0.mk ((ze26 : w.heap.size ≤ gb211)); clear HB; have HB := n0_; have BK211 := n1_; have GW211 := n2_; have GE211 := n3_; clear n0_ n1_ n2_ n3_; clear hb hbox hg))
 (try simp only [Act.put, List.setIfInBounds_toArray, List.set_cons_zero, List.set_cons_succ])
 go_cut [25] (fun v25 wc => ∃ (kq : Nat) (x25_1 : Bool), v25 = .bool x25_1 ∧ Aside0 (impl_IsBoard.j0 kq x25_1 a0_0 a0_1 l0_2 = some r) ∧ Aside0 (kq ≤ k) ∧ Aside0 (wc.heap[gb211]? = some (.cells #[.int .i64 a0_0, .int .i64 a0_1, (.slice A0_2 l0_2.length c0_2)] 30 (0, 0))) ∧ Aside0 (Below w.heap.size w wc))
 case first =>
  have H := HC2.out
  clear HC2
  replace H := Option.bind_eq_some_iff.mp H
  obtain ⟨t212, A40, H⟩ := H
  replace H : (if t212 = true then ((impl_sized.f a0_1).bind fun t213 => (if t213 = true then (impl_IsBoard.j0 k (decide ((l0_2.length : Int) ≥ (wrap64 (a0_0 * a0_1)))) a0_0 a0_1 l0_2) else (impl_IsBoard.j0 k true a0_0 a0_1 l0_2))) else (impl_IsBoard.j0 k true a0_0 a0_1 l0_2)) = some r := H
  have A4 := Aside0.mk A40
  clear A40
  by_cases c5 : t212 = true
  rotate_left
  ·replace c5 := Bool.eq_false_iff.mpr c5
   subst c5
   have H1 : (impl_IsBoard.j0 k true a0_0 a0_1 l0_2) = some r := by rw [if_neg (show ¬ (false = true) by decide)] at H; exact H
   clear H
   have H := H1
   clear H1
   have H' := Aside0.mk H
   clear H
   have hcz10_0 : w3.cell? ⟨gb211, 0, none⟩ = some (.int .i64 a0_0) := (blk_cell BK211.out 0).trans rfl
   have hcz10_1 : w3.cell? ⟨gb211, 1, none⟩ = some (.int .i64 a0_1) := (blk_cell BK211.out 1).trans rfl
   have hcz10_2 : w3.cell? ⟨gb211, 2, none⟩ = some (.slice A0_2 l0_2.length c0_2) := (blk_cell BK211.out 2).trans rfl
   have hfz10_0 := blk_frozen BK211.out 0
   have hfz10_1 := blk_frozen BK211.out 1
   have hfz10_2 := blk_frozen BK211.out 2
   go_wp2_with (first | ((with_reducible refine gate_callee (f := 51) rfl ?_); refine goesL_ (some 7) rfl rfl Try.func51 (by kernel_rfl) rfl #[.int .i64 a0_0] rfl ze7 ?_; (with_reducible refine (impl_sized.calls a0_0 false _ A4.out).mono ?_); rintro e w' ⟨rfl, ⟨nd, rfl⟩⟩; refine ⟨_, rfl, ?_⟩))
   go_meet
   case rel => exact ⟨_, (true), ze15, H', ⟨by first | omega | exact Nat.le_refl _⟩, ⟨ze14⟩, ⟨ze3⟩⟩
  subst c5
  have H1 : ((impl_sized.f a0_1).bind fun t213 => (if t213 = true then (impl_IsBoard.j0 k (decide ((l0_2.length : Int) ≥ (wrap64 (a0_0 * a0_1)))) a0_0 a0_1 l0_2) else (impl_IsBoard.j0 k true a0_0 a0_1 l0_2))) = some r := by rw [if_pos rfl] at H; exact H
  clear H
  have H := H1
  clear H1
  replace H := Option.bind_eq_some_iff.mp H
  obtain ⟨t213, A60, H⟩ := H
  replace H : (if t213 = true then (impl_IsBoard.j0 k (decide ((l0_2.length : Int) ≥ (wrap64 (a0_0 * a0_1)))) a0_0 a0_1 l0_2) else (impl_IsBoard.j0 k true a0_0 a0_1 l0_2)) = some r := H
  have A6 := Aside0.mk A60
  clear A60
  by_cases c7 : t213 = true
  ·subst c7
   have H1 : (impl_IsBoard.j0 k (decide ((l0_2.length : Int) ≥ (wrap64 (a0_0 * a0_1)))) a0_0 a0_1 l0_2) = some r := by rw [if_pos rfl] at H; exact H
   clear H
   have H := H1
   clear H1
   have H' := Aside0.mk H
   clear H
   have hcz8_0 : w3.cell? ⟨gb211, 0, none⟩ = some (.int .i64 a0_0) := (blk_cell BK211.out 0).trans rfl
   have hcz8_1 : w3.cell? ⟨gb211, 1, none⟩ = some (.int .i64 a0_1) := (blk_cell BK211.out 1).trans rfl
   have hcz8_2 : w3.cell? ⟨gb211, 2, none⟩ = some (.slice A0_2 l0_2.length c0_2) := (blk_cell BK211.out 2).trans rfl
   have hfz8_0 := blk_frozen BK211.out 0
   have hfz8_1 := blk_frozen BK211.out 1
   have hfz8_2 := blk_frozen BK211.out 2
   go_wp2_with (first | ((with_reducible refine gate_callee (f := 51) rfl ?_); refine goesL_ (some 7) rfl rfl Try.func51 (by kernel_rfl) rfl #[.int .i64 a0_0] rfl ze7 ?_; (with_reducible refine (impl_sized.calls a0_0 true _ A4.out).mono ?_); rintro e w' ⟨rfl, ⟨nd, rfl⟩⟩; refine ⟨_, rfl, ?_⟩) | (go_at_call 51; (with_reducible refine (impl_sized.calls a0_1 true _ A6.out).mono ?_); rintro e w' ⟨rfl, ⟨nd, rfl⟩⟩))
   go_meet
   case rel => exact ⟨_, (decide ((l0_2.length : Int) ≥ (wrap64 (a0_0 * a0_1)))), ze15, H', ⟨by first | omega | exact Nat.le_refl _⟩, ⟨ze14⟩, ⟨ze3⟩⟩
  replace c7 := Bool.eq_false_iff.mpr c7
  subst c7
  have H1 : (impl_IsBoard.j0 k true a0_0 a0_1 l0_2) = some r := by rw [if_neg (show ¬ (false = true) by decide)] at H; exact H
  clear H
  have H := H1
  clear H1
  have H' := Aside0.mk H
  clear H
  have hcz9_0 : w3.cell? ⟨gb211, 0, none⟩ = some (.int .i64 a0_0) := (blk_cell BK211.out 0).trans rfl
  have hcz9_1 : w3.cell? ⟨gb211, 1, none⟩ = some (.int .i64 a0_1) := (blk_cell BK211.out 1).trans rfl
  have hcz9_2 : w3.cell? ⟨gb211, 2, none⟩ = some (.slice A0_2 l0_2.length c0_2) := (blk_cell BK211.out 2).trans rfl
  have hfz9_0 := blk_frozen BK211.out 0
  have hfz9_1 := blk_frozen BK211.out 1
  have hfz9_2 := blk_frozen BK211.out 2
  go_wp2_with (first | ((with_reducible refine gate_callee (f := 51) rfl ?_); refine goesL_ (some 7) rfl rfl Try.func51 (by kernel_rfl) rfl #[.int .i64 a0_0] rfl ze7 ?_; (with_reducible refine (impl_sized.calls a0_0 true _ A4.out).mono ?_); rintro e w' ⟨rfl, ⟨nd, rfl⟩⟩; refine ⟨_, rfl, ?_⟩) | (go_at_call 51; (with_reducible refine (impl_sized.calls a0_1 false _ A6.out).mono ?_); rintro e w' ⟨rfl, ⟨nd, rfl⟩⟩))
  go_meet
  case rel => exact ⟨_, (true), ze15, H', ⟨by first | omega | exact Nat.le_refl _⟩, ⟨ze14⟩, ⟨ze3⟩⟩
 case rest =>
  clear HC2
  try clear p2; try clear c3; try clear c5; try clear p6; try clear c7; try clear hcz10_0; try clear hcz10_1; try clear hcz10_2; try clear hcz8_0; try clear hcz8_1; try clear hcz8_2; try clear hcz9_0; try clear hcz9_1; try clear hcz9_2; try clear hfz10_0; try clear hfz10_1; try clear hfz10_2; try clear hfz8_0; try clear hfz8_1; try clear hfz8_2; try clear hfz9_0; try clear hfz9_1; try clear hfz9_2
  obtain ⟨kq, x25_1, rfl, HA, HJ1, BK211, HB⟩ := hcut
  cases kq with
  | zero => exact absurd HA.out (by simp [impl_IsBoard.j0])
  | succ kj1 =>
   have H := HA.out
   clear HA
   simp only [impl_IsBoard.j0] at H
   by_cases c11 : x25_1 = true
   ·subst c11
    have H1 : (some false) = some r := by rw [if_pos rfl] at H; exact H
    clear H
    have H := H1
    clear H1
    obtain rfl := Option.some.inj H
    go_wp2
    go_ret
    exact ⟨ze10, ze3⟩
   replace c11 := Bool.eq_false_iff.mpr c11
   subst c11
   have H1 : (impl_IsBoard.l0 kj1 l0_2 (l0_2.length : Int) 0 a0_0 a0_1 l0_2) = some r := by rw [if_neg (show ¬ (false = true) by decide)] at H; exact H
   clear H
   have H := H1
   clear H1
   have H' := Aside0.mk H
   clear H
   have hcz12_0 : wc.cell? ⟨gb211, 0, none⟩ = some (.int .i64 a0_0) := (blk_cell BK211.out 0).trans rfl
   have hcz12_1 : wc.cell? ⟨gb211, 1, none⟩ = some (.int .i64 a0_1) := (blk_cell BK211.out 1).trans rfl
   have hcz12_2 : wc.cell? ⟨gb211, 2, none⟩ = some (.slice A0_2 l0_2.length c0_2) := (blk_cell BK211.out 2).trans rfl
   have hfz12_0 := blk_frozen BK211.out 0
   have hfz12_1 := blk_frozen BK211.out 1
   have hfz12_2 := blk_frozen BK211.out 2
   go_wp2
   go_loopg [29] kj1 (fun kq v29 w' => ∃ (x29_2 : Int), v29 = .int .i64 x29_2 ∧ Aside0 (impl_IsBoard.l0 kq l0_2 (l0_2.length : Int) x29_2 a0_0 a0_1 l0_2 = some r) ∧ Aside0 (kq ≤ kj1) ∧ Aside0 (w'.heap[gb211]? = some (.cells #[.int .i64 a0_0, .int .i64 a0_1, (.slice A0_2 l0_2.length c0_2)] 30 (0, 0))) ∧ Aside0 (Below w.heap.size w w'))
   case atStart => exact ⟨(0), ze15, H', ⟨Nat.le_refl _⟩, ⟨ze14⟩, ⟨ze3⟩⟩
   case round =>
    clear H'
    try clear c1; try clear p2; try clear c3; try clear c5; try clear p6; try clear c7; try clear c11; try clear hcz10_0; try clear hcz10_1; try clear hcz10_2; try clear hcz12_0; try clear hcz12_1; try clear hcz12_2; try clear hcz8_0; try clear hcz8_1; try clear hcz8_2; try clear hcz9_0; try clear hcz9_1; try clear hcz9_2; try clear hfz10_0; try clear hfz10_1; try clear hfz10_2; try clear hfz12_0; try clear hfz12_1; try clear hfz12_2; try clear hfz8_0; try clear hfz8_1; try clear hfz8_2; try clear hfz9_0; try clear hfz9_1; try clear hfz9_2; try clear p2; try clear p6
    obtain ⟨x29_2, rfl, HA, HK2, BK211, HB⟩ := hrel
    cases gk with
    | zero => exact absurd HA.out (by simp [impl_IsBoard.l0])
    | succ k2 =>
     have H := HA.out
     clear HA
     simp only [impl_IsBoard.l0] at H
     by_cases c13 : x29_2 < (l0_2.length : Int)
     rotate_left
     ·rw [if_neg c13] at H
      have c13b0 : decide (x29_2 < (l0_2.length : Int)) = false := decide_eq_false c13
      clear c13
      obtain rfl := Option.some.inj H
      go_wp2
      go_ret
      exact ⟨ze10, ze3⟩
     rw [if_pos c13] at H
     have c13b0 : decide (x29_2 < (l0_2.length : Int)) = true := decide_eq_true c13
     clear c13
     by_cases c14 : 0 ≤ x29_2
     rotate_left
     ·rw [if_neg c14] at H
      exact absurd H (by simp)
     rw [if_pos c14] at H
     have c14b0 : decide (0 ≤ x29_2) = true := decide_eq_true c14
     clear c14
     by_cases c15 : x29_2 < (l0_2.length : Int)
     rotate_left
     ·rw [if_neg c15] at H
      exact absurd H (by simp)
     rw [if_pos c15] at H
     have c15b0 : decide (x29_2 < (l0_2.length : Int)) = true := decide_eq_true c15
     clear c15
     by_cases c16 : (rd l0_2 x29_2) < 0
     ·rw [if_pos c16] at H
      have c16b0 : decide ((rd l0_2 x29_2) < 0) = true := decide_eq_true c16
      clear c16
      obtain rfl := Option.some.inj H
      have p214 : 0 ≤ (x29_2 : Int) := of_decide_eq_true ze4
      have q214 : x29_2 < (l0_2.length : Int) := of_decide_eq_true ze4
      obtain ⟨ad214, e214, hx214_0⟩ := Kd.at_int HR0_2.out x29_2 p214 q214
      cases e214
      (first | replace hx214_0 := (HB.out.cell (World.block_lt_of_cell? w _ hx214_0)).trans hx214_0 | skip)
      replace p214 := eq_true p214
      replace q214 := eq_true q214
      go_wp2
      go_ret
      exact ⟨ze10, ze3⟩
     rw [if_neg c16] at H
     have c16b0 : decide ((rd l0_2 x29_2) < 0) = false := decide_eq_false c16
     clear c16
     by_cases c17 : (rd l0_2 x29_2) ≥ (wrap64 (a0_0 * a0_1))
     ·rw [if_pos c17] at H
      have c17b0 : decide ((wrap64 (a0_0 * a0_1)) ≤ (rd l0_2 x29_2)) = true := decide_eq_true c17
      clear c17
      obtain rfl := Option.some.inj H
      have p214 : 0 ≤ (x29_2 : Int) := of_decide_eq_true ze4
      have q214 : x29_2 < (l0_2.length : Int) := of_decide_eq_true ze4
      obtain ⟨ad214, e214, hx214_0⟩ := Kd.at_int HR0_2.out x29_2 p214 q214
      cases e214
      (first | replace hx214_0 := (HB.out.cell (World.block_lt_of_cell? w _ hx214_0)).trans hx214_0 | skip)
      replace p214 := eq_true p214
      replace q214 := eq_true q214
      have hcz18_0 : wr.cell? ⟨gb211, 0, none⟩ = some (.int .i64 a0_0) := (blk_cell BK211.out 0).trans rfl
      have hcz18_1 : wr.cell? ⟨gb211, 1, none⟩ = some (.int .i64 a0_1) := (blk_cell BK211.out 1).trans rfl
      have hcz18_2 : wr.cell? ⟨gb211, 2, none⟩ = some (.slice (some ad214) l0_2.length c0_2) := (blk_cell BK211.out 2).trans rfl
      have hfz18_0 := blk_frozen BK211.out 0
      have hfz18_1 := blk_frozen BK211.out 1
      have hfz18_2 := blk_frozen BK211.out 2
      go_wp2
      go_ret
      exact ⟨ze10, ze3⟩
     rw [if_neg c17] at H
     have c17b0 : decide ((wrap64 (a0_0 * a0_1)) ≤ (rd l0_2 x29_2)) = false := decide_eq_false c17
     clear c17
     by_cases c19 : x29_2 > 0
     rotate_left
     ·rw [if_neg c19] at H
      have c19b0 : decide (0 < x29_2) = false := decide_eq_false c19
      clear c19
      have H' := Aside0.mk H
      clear H
      have p214 : 0 ≤ (x29_2 : Int) := of_decide_eq_true ze4
      have q214 : x29_2 < (l0_2.length : Int) := of_decide_eq_true ze4
      obtain ⟨ad214, e214, hx214_0⟩ := Kd.at_int HR0_2.out x29_2 p214 q214
      cases e214
      (first | replace hx214_0 := (HB.out.cell (World.block_lt_of_cell? w _ hx214_0)).trans hx214_0 | skip)
      replace p214 := eq_true p214
      replace q214 := eq_true q214
      have hcz26_0 : wr.cell? ⟨gb211, 0, none⟩ = some (.int .i64 a0_0) := (blk_cell BK211.out 0).trans rfl
      have hcz26_1 : wr.cell? ⟨gb211, 1, none⟩ = some (.int .i64 a0_1) := (blk_cell BK211.out 1).trans rfl
      have hcz26_2 : wr.cell? ⟨gb211, 2, none⟩ = some (.slice (some ad214) l0_2.length c0_2) := (blk_cell BK211.out 2).trans rfl
      have hfz26_0 := blk_frozen BK211.out 0
      have hfz26_1 := blk_frozen BK211.out 1
      have hfz26_2 := blk_frozen BK211.out 2
      go_wp2
      go_roundg k2
      case measure => have := HJ1.out; have := HK2.out; omega
      case rel => exact ⟨(wrap64 (x29_2 + 1)), ze15, H', ⟨by have := HJ1.out; have := HK2.out; omega⟩, ⟨ze14⟩, ⟨ze3⟩⟩
     rw [if_pos c19] at H
     have c19b0 : decide (0 < x29_2) = true := decide_eq_true c19
     clear c19
     obtain ⟨ji20, hji20⟩ : ∃ j_ : Int, (wrap64 (x29_2 - 1)) = j_ := ⟨_, rfl⟩
     replace H : (if 0 ≤ (ji20) then (if (ji20) < (l0_2.length : Int) then (if (rd l0_2 (ji20)) ≥ (rd l0_2 x29_2) then (some false) else (impl_IsBoard.l0 k2 l0_2 (l0_2.length : Int) (wrap64 (x29_2 + 1)) a0_0 a0_1 l0_2)) else (none)) else (none)) = some r := by first | (rw [hji20] at H; exact H) | (simp only [hji20] at H ⊢; exact H)
     have hji20w : (IntKind.i64.wrap (x29_2 - 1)) = ji20 := (i64_w _).trans hji20
     by_cases c21 : 0 ≤ (ji20)
     rotate_left
     ·rw [if_neg c21] at H
      exact absurd H (by simp)
     rw [if_pos c21] at H
     have c21b0 : decide (0 ≤ (ji20)) = true := decide_eq_true c21
     clear c21
     by_cases c22 : (ji20) < (l0_2.length : Int)
     rotate_left
     ·rw [if_neg c22] at H
      exact absurd H (by simp)
     rw [if_pos c22] at H
     have c22b0 : decide ((ji20) < (l0_2.length : Int)) = true := decide_eq_true c22
     clear c22
     by_cases c23 : (rd l0_2 (ji20)) ≥ (rd l0_2 x29_2)
     ·rw [if_pos c23] at H
      have c23b0 : decide ((rd l0_2 x29_2) ≤ (rd l0_2 (ji20))) = true := decide_eq_true c23
      clear c23
      obtain rfl := Option.some.inj H
      have p214 : 0 ≤ (x29_2 : Int) := of_decide_eq_true ze4
      have q214 : x29_2 < (l0_2.length : Int) := of_decide_eq_true ze4
      obtain ⟨ad214, e214, hx214_0⟩ := Kd.at_int HR0_2.out x29_2 p214 q214
      cases e214
      (first | replace hx214_0 := (HB.out.cell (World.block_lt_of_cell? w _ hx214_0)).trans hx214_0 | skip)
      replace p214 := eq_true p214
      replace q214 := eq_true q214
      have hcz24_0 : wr.cell? ⟨gb211, 0, none⟩ = some (.int .i64 a0_0) := (blk_cell BK211.out 0).trans rfl
      have hcz24_1 : wr.cell? ⟨gb211, 1, none⟩ = some (.int .i64 a0_1) := (blk_cell BK211.out 1).trans rfl
      have hcz24_2 : wr.cell? ⟨gb211, 2, none⟩ = some (.slice (some ad214) l0_2.length c0_2) := (blk_cell BK211.out 2).trans rfl
      have hfz24_0 := blk_frozen BK211.out 0
      have hfz24_1 := blk_frozen BK211.out 1
      have hfz24_2 := blk_frozen BK211.out 2
      have p215 : 0 ≤ ((ji20) : Int) := of_decide_eq_true ze4
      have q215 : (ji20) < (l0_2.length : Int) := of_decide_eq_true ze4
      obtain ⟨ad215, e215, hx215_0⟩ := Kd.at_int HR0_2.out (ji20) p215 q215
      obtain rfl : ad214 = ad215 := (by injection e215)
      (first | replace hx215_0 := (HB.out.cell (World.block_lt_of_cell? w _ hx215_0)).trans hx215_0 | skip)
      replace p215 := eq_true p215
      replace q215 := eq_true q215
      go_wp2
      go_ret
      exact ⟨by first | rfl | (simp [errW_none, errW_some] <;> rfl) | (simp only [← hji20]; first | rfl | (simp [errW_none, errW_some] <;> rfl)) | (simp [*, errW_none, errW_some] <;> rfl), ze3⟩
     rw [if_neg c23] at H
     have c23b0 : decide ((rd l0_2 x29_2) ≤ (rd l0_2 (ji20))) = false := decide_eq_false c23
     clear c23
     have H' := Aside0.mk H
     clear H
     have p214 : 0 ≤ (x29_2 : Int) := of_decide_eq_true ze4
     have q214 : x29_2 < (l0_2.length : Int) := of_decide_eq_true ze4
     obtain ⟨ad214, e214, hx214_0⟩ := Kd.at_int HR0_2.out x29_2 p214 q214
     cases e214
     (first | replace hx214_0 := (HB.out.cell (World.block_lt_of_cell? w _ hx214_0)).trans hx214_0 | skip)
     replace p214 := eq_true p214
     replace q214 := eq_true q214
     have hcz25_0 : wr.cell? ⟨gb211, 0, none⟩ = some (.int .i64 a0_0) := (blk_cell BK211.out 0).trans rfl
     have hcz25_1 : wr.cell? ⟨gb211, 1, none⟩ = some (.int .i64 a0_1) := (blk_cell BK211.out 1).trans rfl
     have hcz25_2 : wr.cell? ⟨gb211, 2, none⟩ = some (.slice (some ad214) l0_2.length c0_2) := (blk_cell BK211.out 2).trans rfl
     have hfz25_0 := blk_frozen BK211.out 0
     have hfz25_1 := blk_frozen BK211.out 1
     have hfz25_2 := blk_frozen BK211.out 2
     have p215 : 0 ≤ ((ji20) : Int) := of_decide_eq_true ze4
     have q215 : (ji20) < (l0_2.length : Int) := of_decide_eq_true ze4
     obtain ⟨ad215, e215, hx215_0⟩ := Kd.at_int HR0_2.out (ji20) p215 q215
     obtain rfl : ad214 = ad215 := (by injection e215)
     (first | replace hx215_0 := (HB.out.cell (World.block_lt_of_cell? w _ hx215_0)).trans hx215_0 | skip)
     replace p215 := eq_true p215
     replace q215 := eq_true q215
     go_wp2
     go_roundg k2
     case measure => have := HJ1.out; have := HK2.out; omega
     case rel => exact ⟨(wrap64 (x29_2 + 1)), ze15, H', ⟨by have := HJ1.out; have := HK2.out; omega⟩, ⟨ze14⟩, ⟨ze3⟩⟩

/-! ### impl_IsLeaper: function 40 -/
def impl_IsLeaper.f (a0_0 : Int) (a0_1 : Int) : Option (Bool) := if a0_0 ≥ 0 then (if a0_0 ≤ a0_1 then (if a0_1 ≥ 1 then (some (decide (a0_1 ≤ 5))) else (some false)) else (some false)) else (some false)
set_option maxHeartbeats 8000000 in
set_option maxRecDepth 100000 in
theorem impl_IsLeaper.calls (a0_0 : Int) (a0_1 : Int) (r : Bool) (w : World) (h : impl_IsLeaper.f a0_0 a0_1 = some r) :
  Calls Try.prog 40 #[.agg #[.int .i64 a0_0, .int .i64 a0_1]] w fun e w' => e = .returned (.bool r) ∧ Below w.heap.size w w' := by
 have hu32 := Try.underlying32
 have HB := Aside0.mk (Below.refl w.heap.size w)
 have H : (if a0_0 ≥ 0 then (if a0_0 ≤ a0_1 then (if a0_1 ≥ 1 then (some (decide (a0_1 ≤ 5))) else (some false)) else (some false)) else (some false)) = some r := h
 clear h
 by_cases c2 : a0_0 ≥ 0
 rotate_left
 ·rw [if_neg c2] at H
  have c2b0 : decide (0 ≤ a0_0) = false := decide_eq_false c2
  clear c2
  obtain rfl := Option.some.inj H
  go_enter Try.func40, Try.ntmps40
  go_wp2_with (first | ((with_reducible refine gate_dst (N := 1) rfl ?_); refine box_event ?hg (N := 1) ?hd (cs := #[.int .i64 a0_0, .int .i64 a0_1]) (t := 32) ?hr ?_; (case hd => rfl); (case hg => rfl); (case hr => first | (go_simp; done) | (go_simp; rfl)); intro gb216 hg w11 hbox hb; have n0_ := Aside0.mk (below_step ze2 hb); have n1_ := Aside0.mk (hbox); have n2_ := Aside0.mk ((ze26 : w.heap.size ≤ gb216)); have n3_ := Aside0.mk ((ze26 : w.heap.size ≤ gb216)); clear HB; have HB := n0_; have BK216 := n1_; have GW216 := n2_; have GE216 := n3_; clear n0_ n1_ n2_ n3_; clear hb hbox hg; have hcz12_0 : w11.cell? ⟨gb216, 0, none⟩ = some (.int .i64 a0_0) := (blk_cell BK216.out 0).trans rfl; have hcz12_1 : w11.cell? ⟨gb216, 1, none⟩ = some (.int .i64 a0_1) := (blk_cell BK216.out 1).trans rfl; have hfz12_0 := blk_frozen BK216.out 0; have hfz12_1 := blk_frozen BK216.out 1))
  go_ret
  exact ⟨ze10, ze17⟩
 rw [if_pos c2] at H
 have c2b0 : decide (0 ≤ a0_0) = true := decide_eq_true c2
 clear c2
 by_cases c3 : a0_0 ≤ a0_1
 rotate_left
 ·rw [if_neg c3] at H
  have c3b0 : decide (a0_0 ≤ a0_1) = false := decide_eq_false c3
  clear c3
  obtain rfl := Option.some.inj H
  go_enter Try.func40, Try.ntmps40
  go_wp2_with (first | ((with_reducible refine gate_dst (N := 1) rfl ?_); refine box_event ?hg (N := 1) ?hd (cs := #[.int .i64 a0_0, .int .i64 a0_1]) (t := 32) ?hr ?_; (case hd => rfl); (case hg => rfl); (case hr => first | (go_simp; done) | (go_simp; rfl)); intro gb216 hg w9 hbox hb; have n0_ := Aside0.mk (below_step ze2 hb); have n1_ := Aside0.mk (hbox); have n2_ := Aside0.mk ((ze26 : w.heap.size ≤ gb216)); have n3_ := Aside0.mk ((ze26 : w.heap.size ≤ gb216)); clear HB; have HB := n0_; have BK216 := n1_; have GW216 := n2_; have GE216 := n3_; clear n0_ n1_ n2_ n3_; clear hb hbox hg; have hcz10_0 : w9.cell? ⟨gb216, 0, none⟩ = some (.int .i64 a0_0) := (blk_cell BK216.out 0).trans rfl; have hcz10_1 : w9.cell? ⟨gb216, 1, none⟩ = some (.int .i64 a0_1) := (blk_cell BK216.out 1).trans rfl; have hfz10_0 := blk_frozen BK216.out 0; have hfz10_1 := blk_frozen BK216.out 1))
  go_ret
  exact ⟨ze10, ze17⟩
 rw [if_pos c3] at H
 have c3b0 : decide (a0_0 ≤ a0_1) = true := decide_eq_true c3
 clear c3
 by_cases c4 : a0_1 ≥ 1
 ·rw [if_pos c4] at H
  have c4b0 : decide (1 ≤ a0_1) = true := decide_eq_true c4
  clear c4
  obtain rfl := Option.some.inj H
  go_enter Try.func40, Try.ntmps40
  go_wp2_with (first | ((with_reducible refine gate_dst (N := 1) rfl ?_); refine box_event ?hg (N := 1) ?hd (cs := #[.int .i64 a0_0, .int .i64 a0_1]) (t := 32) ?hr ?_; (case hd => rfl); (case hg => rfl); (case hr => first | (go_simp; done) | (go_simp; rfl)); intro gb216 hg w5 hbox hb; have n0_ := Aside0.mk (below_step ze2 hb); have n1_ := Aside0.mk (hbox); have n2_ := Aside0.mk ((ze26 : w.heap.size ≤ gb216)); have n3_ := Aside0.mk ((ze26 : w.heap.size ≤ gb216)); clear HB; have HB := n0_; have BK216 := n1_; have GW216 := n2_; have GE216 := n3_; clear n0_ n1_ n2_ n3_; clear hb hbox hg; have hcz6_0 : w5.cell? ⟨gb216, 0, none⟩ = some (.int .i64 a0_0) := (blk_cell BK216.out 0).trans rfl; have hcz6_1 : w5.cell? ⟨gb216, 1, none⟩ = some (.int .i64 a0_1) := (blk_cell BK216.out 1).trans rfl; have hfz6_0 := blk_frozen BK216.out 0; have hfz6_1 := blk_frozen BK216.out 1))
  go_ret
  exact ⟨ze10, ze17⟩
 rw [if_neg c4] at H
 have c4b0 : decide (1 ≤ a0_1) = false := decide_eq_false c4
 clear c4
 obtain rfl := Option.some.inj H
 go_enter Try.func40, Try.ntmps40
 go_wp2_with (first | ((with_reducible refine gate_dst (N := 1) rfl ?_); refine box_event ?hg (N := 1) ?hd (cs := #[.int .i64 a0_0, .int .i64 a0_1]) (t := 32) ?hr ?_; (case hd => rfl); (case hg => rfl); (case hr => first | (go_simp; done) | (go_simp; rfl)); intro gb216 hg w7 hbox hb; have n0_ := Aside0.mk (below_step ze2 hb); have n1_ := Aside0.mk (hbox); have n2_ := Aside0.mk ((ze26 : w.heap.size ≤ gb216)); have n3_ := Aside0.mk ((ze26 : w.heap.size ≤ gb216)); clear HB; have HB := n0_; have BK216 := n1_; have GW216 := n2_; have GE216 := n3_; clear n0_ n1_ n2_ n3_; clear hb hbox hg; have hcz8_0 : w7.cell? ⟨gb216, 0, none⟩ = some (.int .i64 a0_0) := (blk_cell BK216.out 0).trans rfl; have hcz8_1 : w7.cell? ⟨gb216, 1, none⟩ = some (.int .i64 a0_1) := (blk_cell BK216.out 1).trans rfl; have hfz8_0 := blk_frozen BK216.out 0; have hfz8_1 := blk_frozen BK216.out 1))
 go_ret
 exact ⟨ze10, ze17⟩

end Go.Proofs.Ytfjomkjngolboaa.Q

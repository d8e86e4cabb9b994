/- Written by a program of this session: functions of the translation as plain Lean functions, each with a proof that the call does what the plain function says; the conditions stand in each theorem. -/
import Derived.Test.YtmfbhhicioepjaaQ0
import Derived.Test.YtmfbhhicioepjaaQ1
import Derived.Test.YtmfbhhicioepjaaQ2
namespace Go.Proofs.Ytmfbhhicioepjaa.Q
open Go.RowKit Go.Proofs.YtmfbhhicioepjaaW.PrintWords Go.Proofs.YtmfbhhicioepjaaW.PrintLast Go.Proofs.YtmfbhhicioepjaaW.PrintMore
attribute [local go_sem] max2_int min2_int max_two min_two max_three min_three max_four min_four   -- for this text's walks alone
set_option linter.unusedVariables false
set_option linter.unusedSimpArgs false

theorem zd1 {p : Prop} (h : p := by repeat (first | (with_reducible first | exact HB.out | apply below_alloc | apply pw_below_drewN | apply below_drew1 | refine below_set ?_ GE149.out | refine below_set ?_ GE150.out) | exact HB.out)) : p := h
theorem zd2 {p : Prop} (h : p := by first | exact BK149.out | ((with_reducible repeat (first | refine blk_drewN ?_ _ | refine blk_drew ?_ | refine blk_alloc ?_ _)); exact BK149.out)) : p := h
theorem zd3 {p : Prop} (h : p := by first | exact BK150.out | ((with_reducible repeat (first | refine blk_drewN ?_ _ | refine blk_drew ?_ | refine blk_alloc ?_ _)); exact BK150.out)) : p := h
theorem zd4 {p : Prop} (h : p := by first | exact HO_21.out | ((with_reducible repeat (first | apply Kd.R_alloc | apply Kd.R_drewN | apply Kd.R_drew)); exact HO_21.out)) : p := h
theorem zd5 {p : Prop} (h : p := by first | exact HO_7.out | ((with_reducible repeat (first | apply Kd.R_alloc | apply Kd.R_drewN | apply Kd.R_drew)); exact HO_7.out)) : p := h
theorem zd6 {p : Prop} (h : p := by (try simp only [List.map_toArray, List.map_cons, List.map_nil]); first | done | rfl | (simp only [List.length_drop, List.length_take]; rfl)) : p := h
theorem zd7 {p : Prop} (h : p := by repeat (first | exact (Kd.C_below HR2.out HB.out) | (with_reducible refine Kd.C_alloc ?_ _) | (with_reducible refine Kd.C_drewN ?_ _) | (with_reducible refine Kd.C_drew ?_))) : p := h
theorem zd8 {p : Prop} (h : p := by first | exact HO165.out | ((with_reducible repeat (first | apply Kd.R_alloc | apply Kd.R_drewN | apply Kd.R_drew)); exact HO165.out)) : p := h
theorem zd9 {p : Prop} (h : p := by (with_reducible repeat (first | apply Kd.R_alloc | apply Kd.R_drewN | apply Kd.R_drew)); exact Kd.R_mono HO165.out (fun _ hk => ⟨hk.2, ⟨hk.1.2, hk.1.1.2⟩⟩)) : p := h
theorem zd10 {p : Prop} (h : p := by (with_reducible repeat (first | apply Kd.R_alloc | apply Kd.R_drewN | apply Kd.R_drew)); exact Kd.R_mono HO162.out (fun _ hk => ⟨hk.2, ⟨hk.1.2, hk.1.1.2⟩⟩)) : p := h
theorem zd11 {p : Prop} (h : p := by repeat (first | exact (Kd.C_below HR0_2.out HB.out) | (with_reducible refine Kd.C_alloc ?_ _) | (with_reducible refine Kd.C_drewN ?_ _) | (with_reducible refine Kd.C_drew ?_))) : p := h
theorem zd12 {p : Prop} (h : p := by repeat (first | (with_reducible first | exact HB.out | apply below_alloc | apply pw_below_drewN | apply below_drew1 | refine below_set ?_ GE149.out) | exact HB.out)) : p := h
theorem zd13 {p : Prop} (h : p := by first | (with_reducible assumption) | assumption) : p := h
theorem zd14 {p : Prop} (h : p := by first | exact HO168.out | ((with_reducible repeat (first | apply Kd.R_alloc | apply Kd.R_drewN | apply Kd.R_drew)); exact HO168.out)) : p := h
theorem zd15 {p : Prop} (h : p := by first | exact HO162.out | ((with_reducible repeat (first | apply Kd.R_alloc | apply Kd.R_drewN | apply Kd.R_drew)); exact HO162.out)) : p := h
theorem zd16 {p : Prop} (h : p := by simp only [putAll, Act.put, List.setIfInBounds_toArray, List.set_cons_zero, List.set_cons_succ]) : p := h
theorem zd17 {p : Prop} (h : p := by repeat (first | (with_reducible first | exact HB.out | apply below_alloc | apply pw_below_drewN | apply below_drew1) | exact HB.out)) : p := h
theorem zd18 {p : Prop} (h : p := by repeat (first | exact (Kd.R_reads' HO168.out).2.2 | (with_reducible refine Kd.C_alloc ?_ _) | (with_reducible refine Kd.C_drewN ?_ _) | (with_reducible refine Kd.C_drew ?_))) : p := h
theorem zd19 {p : Prop} (h : p := by (with_reducible repeat (first | apply Kd.R_alloc | apply Kd.R_drewN | apply Kd.R_drew)); exact Kd.R_mono HO_21.out (fun _ hk => ⟨⟨hk.2.2, hk.2.1⟩, hk.1⟩)) : p := h
theorem zd20 {p : Prop} (h : p := by (with_reducible repeat (first | apply Kd.R_alloc | apply Kd.R_drewN | apply Kd.R_drew)); exact Kd.R_mono HO_21.out (fun _ hk => ⟨hk.2, ⟨hk.1.2, hk.1.1⟩⟩)) : p := h
theorem zd21 {p : Prop} (h : p := by (with_reducible repeat (first | apply Kd.R_alloc | apply Kd.R_drewN | apply Kd.R_drew)); exact Kd.R_mono HO_21.out (fun _ hk => ⟨hk.1.2, ⟨hk.2, hk.1.1⟩⟩)) : p := h
theorem zd22 {p : Prop} (h : p := by (with_reducible repeat (first | apply Kd.R_alloc | apply Kd.R_drewN | apply Kd.R_drew)); exact Kd.R_mono HO165.out (fun _ hk => ⟨⟨hk.2.2, hk.2.1⟩, hk.1⟩)) : p := h
theorem zd23 {p : Prop} (h : p := by (with_reducible repeat (first | apply Kd.R_alloc | apply Kd.R_drewN | apply Kd.R_drew)); exact Kd.R_mono HO162.out (fun _ hk => ⟨hk.2.2, ⟨hk.2.1, hk.1⟩⟩)) : p := h
theorem zd24 {p : Prop} (h : p := by (with_reducible repeat (first | apply Kd.R_alloc | apply Kd.R_drewN | apply Kd.R_drew)); exact Kd.R_mono HO_7.out (fun _ hk => ⟨⟨hk.2.2, hk.2.1⟩, hk.1⟩)) : p := h
theorem zd25 {p : Prop} (h : p := by (with_reducible repeat (first | apply Kd.R_alloc | apply Kd.R_drewN | apply Kd.R_drew)); exact Kd.R_mono HO_7.out (fun _ hk => ⟨hk.2, ⟨hk.1.2, hk.1.1⟩⟩)) : p := h
theorem zd26 {p : Prop} (h : p := by (with_reducible repeat (first | apply Kd.R_alloc | apply Kd.R_drewN | apply Kd.R_drew)); exact Kd.R_mono HO_7.out (fun _ hk => ⟨hk.1.2, ⟨hk.2, hk.1.1⟩⟩)) : p := h
theorem zd27 {p : Prop} (h : p := by first | rfl | (simp; done) | (simp [*]; done)) : p := h
/-! ### spec_toLongest: function 43 -/
mutual
def spec_toLongest.l0 : Nat → List Int → List Int → List Int → Int → Int → Int → Int → List Int → Int → Int → Option (List Int)
 | 0, _, _, _, _, _, _, _, _, _, _ => none
 | k + 1, x2, x7, x21, x22, x23, x150000, x150001, x150002, x151000, x151001 => if x23 < x22 then (if 0 ≤ x23 then (if x23 < (x21.length : Int) then ((spec_l1Has.f k x2 (rd x21 x23)).bind fun t159 => (if t159 = true then (spec_toLongest.l0 k x2 x7 x21 x22 (wrap64 (x23 + 1)) x150000 x150001 x150002 x151000 x151001) else ((spec_l1Own.f x2).bind fun t160 => ((some (([rd x21 x23] : List Int) : List Int)).bind fun y163 => (if t160.length + y163.length < 17592186044416 then ((spec_toLongest.f k x150000 x150001 x150002 x151000 x151001 (t160 ++ y163)).bind fun t169 => (if (t169.length : Int) > (x7.length : Int) then (spec_toLongest.l0 k x2 t169 x21 x22 (wrap64 (x23 + 1)) x150000 x150001 x150002 x151000 x151001) else (spec_toLongest.l0 k x2 x7 x21 x22 (wrap64 (x23 + 1)) x150000 x150001 x150002 x151000 x151001))) else (none)))))) else (none)) else (none)) else (some x7)
def spec_toLongest.f : Nat → Int → Int → List Int → Int → Int → List Int → Option (List Int)
 | 0, _, _, _, _, _, _ => none
 | k + 1, a0_0, a0_1, l0_2, a1_0, a1_1, l2 => (spec_l1Own.f l2).bind fun t151 => (if 0 ≤ (wrap64 ((l2.length : Int) - 1)) then (if (wrap64 ((l2.length : Int) - 1)) < (l2.length : Int) then ((spec_boLeaps.f k a0_0 a0_1 l0_2 a1_0 a1_1 (rd l2 (wrap64 ((l2.length : Int) - 1)))).bind fun t155 => (spec_toLongest.l0 k l2 t151 t155 (t155.length : Int) 0 a0_0 a0_1 l0_2 a1_0 a1_1)) else (none)) else (none))
end
def spec_toLongest.T2 : Bool × List (List Nat × List Nat) := (true, [([], []), ([], []), ([], []), ([], []), ([3], [3]), ([4], [4]), ([2, 5], [2, 5]), ([6], [6]), ([0, 1, 7], [0, 1, 7]), ([8], [8]), ([], [])])
def spec_toLongest.B2 : List Nat := [0, 0, 0, 0, 8, 24, 60, 124, 255, 511, 0]
theorem spec_toLongest.tab2 : rtab .any (opsOf Try.f43 2) = spec_toLongest.T2 := by kernel_rfl
theorem spec_toLongest.bits2 : waitsOk spec_toLongest.T2.2 spec_toLongest.B2 = true := by kernel_rfl
def spec_toLongest.T6 : Bool × List (List Nat × List Nat) := (true, [([], []), ([], []), ([], []), ([2], [2]), ([], []), ([4], [4]), ([3, 5, 3], [3, 5]), ([0, 1, 6, 6], [0, 1, 6]), ([7, 7, 0, 1, 2, 3, 4, 5, 6, 7], [7])])
def spec_toLongest.B6 : List Nat := [0, 0, 0, 4, 0, 16, 60, 127, 255]
theorem spec_toLongest.tab6 : rtab .any (opsOf Try.f43 6) = spec_toLongest.T6 := by kernel_rfl
theorem spec_toLongest.bits6 : waitsOk spec_toLongest.T6.2 spec_toLongest.B6 = true := by kernel_rfl
set_option maxHeartbeats 8000000 in
set_option maxRecDepth 100000 in
theorem spec_toLongest.calls (k : Nat) : ∀ (a0_0 : Int) (a0_1 : Int) (A0_2 : Option Addr) (c0_2 : Nat) (l0_2 : List Int) (a1_0 : Int) (a1_1 : Int) (A2 : Option Addr) (c2 : Nat) (l2 : List Int) (r : List Int) (w : World) (hr0_2 : Kd.C (Kd.int .i64) w A0_2 l0_2.length l0_2) (hc0_2 : l0_2.length ≤ c0_2) (hr2 : Kd.C (Kd.int .i64) w A2 l2.length l2) (hc2 : l2.length ≤ c2) (h : spec_toLongest.f k a0_0 a0_1 l0_2 a1_0 a1_1 l2 = some r),
  Calls Try.prog 43 #[.agg #[.int .i64 a0_0, .int .i64 a0_1, .slice A0_2 l0_2.length c0_2], .agg #[.int .i64 a1_0, .int .i64 a1_1], .slice A2 l2.length c2] w fun e w' => ∃ v0_ : Value, e = .returned (v0_) ∧ Kd.R (Kd.int .i64) 3 w' w.heap.size (fun _ => True) v0_ r ∧ Below w.heap.size w w' := by
 induction k using Nat.strongRecOn with
 | _ k ih =>
 intro a0_0 a0_1 A0_2 c0_2 l0_2 a1_0 a1_1 A2 c2 l2 r w hr0_2 hc0_2 hr2 hc2 h
 cases k with
 | zero => exact absurd h (by simp [spec_toLongest.f])
 | succ k =>
 simp only [spec_toLongest.f] at h
 have hu30 := Try.underlying30
 have hu32 := Try.underlying32
 have HR0_2 := Aside0.mk hr0_2
 have HC0_2 := Aside0.mk hc0_2
 clear hr0_2 hc0_2
 have HR2 := Aside0.mk hr2
 have HC2 := Aside0.mk hc2
 clear hr2 hc2
 have HB := Aside0.mk (Below.refl w.heap.size w)
 have H : ((spec_l1Own.f l2).bind fun t151 => (if 0 ≤ (wrap64 ((l2.length : Int) - 1)) then (if (wrap64 ((l2.length : Int) - 1)) < (l2.length : Int) then ((spec_boLeaps.f k a0_0 a0_1 l0_2 a1_0 a1_1 (rd l2 (wrap64 ((l2.length : Int) - 1)))).bind fun t155 => (spec_toLongest.l0 k l2 t151 t155 (t155.length : Int) 0 a0_0 a0_1 l0_2 a1_0 a1_1)) else (none)) else (none))) = some r := h
 clear h
 replace H := Option.bind_eq_some_iff.mp H
 obtain ⟨t151, A40, H⟩ := H
 replace H : (if 0 ≤ (wrap64 ((l2.length : Int) - 1)) then (if (wrap64 ((l2.length : Int) - 1)) < (l2.length : Int) then ((spec_boLeaps.f k a0_0 a0_1 l0_2 a1_0 a1_1 (rd l2 (wrap64 ((l2.length : Int) - 1)))).bind fun t155 => (spec_toLongest.l0 k l2 t151 t155 (t155.length : Int) 0 a0_0 a0_1 l0_2 a1_0 a1_1)) else (none)) else (none)) = some r := H
 have A4 := Aside0.mk A40
 clear A40
 obtain ⟨ji5, hji5⟩ : ∃ j_ : Int, (wrap64 ((l2.length : Int) - 1)) = j_ := ⟨_, rfl⟩
 replace H : (if 0 ≤ (ji5) then (if (ji5) < (l2.length : Int) then ((spec_boLeaps.f k a0_0 a0_1 l0_2 a1_0 a1_1 (rd l2 (ji5))).bind fun t155 => (spec_toLongest.l0 k l2 t151 t155 (t155.length : Int) 0 a0_0 a0_1 l0_2 a1_0 a1_1)) else (none)) else (none)) = some r := by first | (rw [hji5] at H; exact H) | (simp only [hji5] at H ⊢; exact H)
 (try rw [hji5] at A4)
 have hji5w : (IntKind.i64.wrap ((l2.length : Int) - 1)) = ji5 := (i64_w _).trans hji5
 by_cases c6 : 0 ≤ (ji5)
 ·rw [if_pos c6] at H
  have c6b0 : decide (0 ≤ (ji5)) = true := decide_eq_true c6
  clear c6
  by_cases c7 : (ji5) < (l2.length : Int)
  ·rw [if_pos c7] at H
   have c7b0 : decide ((ji5) < (l2.length : Int)) = true := decide_eq_true c7
   clear c7
   replace H := Option.bind_eq_some_iff.mp H
   obtain ⟨t155, A80, H⟩ := H
   replace H : (spec_toLongest.l0 k l2 t151 t155 (t155.length : Int) 0 a0_0 a0_1 l0_2 a1_0 a1_1) = some r := H
   have A8 := Aside0.mk A80
   clear A80
   have H' := Aside0.mk H
   clear H
   go_enter Try.func43, Try.ntmps43
   try go_wp2_with (first | ((with_reducible refine gate_dst (N := 3) rfl ?_); refine box_event ?hg (N := 3) ?hd (cs := #[.int .i64 a0_0, .int .i64 a0_1, .slice A0_2 l0_2.length c0_2]) (t := 30) ?hr ?_; (case hd => rfl); (case hg => rfl); (case hr => first | (go_simp; done) | (go_simp; rfl)); intro gb149 hg w9 hbox hb; have n0_ := Aside0.mk (below_step zd17 hb); have n1_ := Aside0.mk (hbox); have n2_ := Aside0.mk ((by rw [hg]; exact (below_size zd17) : w.heap.size ≤ gb149)); have n3_ := Aside0.mk ((by rw [hg]; exact (below_size zd17) : w.heap.size ≤ gb149)); clear HB; have HB := n0_; have BK149 := n1_; have GW149 := n2_; have GE149 := n3_; clear n0_ n1_ n2_ n3_; clear hb hbox hg) | ((with_reducible refine gate_dst (N := 4) rfl ?_); refine box_event ?hg (N := 4) ?hd (cs := #[.int .i64 a1_0, .int .i64 a1_1]) (t := 32) ?hr ?_; (case hd => rfl); (case hg => rfl); (case hr => first | (go_simp; done) | (go_simp; rfl)); intro gb150 hg w10 hbox hb; have n0_ := Aside0.mk (blk_below (g := gb149) (o := .cells #[.int .i64 a0_0, .int .i64 a0_1, .slice A0_2 l0_2.length c0_2] 30 (0, 0)) zd2 hb); have n1_ := Aside0.mk (below_step zd12 hb); have n2_ := Aside0.mk (hbox); have n3_ := Aside0.mk ((by rw [hg]; exact (below_size zd12) : w.heap.size ≤ gb150)); have n4_ := Aside0.mk ((by rw [hg]; exact (below_size zd12) : w.heap.size ≤ gb150)); have n5_ := Aside0.mk ((by rw [hg]; exact Nat.ne_of_lt (blk_lt (g := gb149) (o := .cells #[.int .i64 a0_0, .int .i64 a0_1, .slice A0_2 l0_2.length c0_2] 30 (0, 0)) zd2) : gb149 ≠ gb150)); have n6_ := Aside0.mk ((by rw [hg]; exact Nat.ne_of_gt (blk_lt (g := gb149) (o := .cells #[.int .i64 a0_0, .int .i64 a0_1, .slice A0_2 l0_2.length c0_2] 30 (0, 0)) zd2) : gb150 ≠ gb149)); clear BK149; clear HB; have BK149 := n0_; have HB := n1_; have BK150 := n2_; have GW150 := n3_; have GE150 := n4_; have NB149_150 := n5_; have NB150_149 := n6_; clear n0_ n1_ n2_ n3_ n4_ n5_ n6_; clear hb hbox hg) | ((with_reducible refine gate_callee (f := 65) rfl ?_); refine goesL_ (some 12) rfl rfl Try.func65 (by kernel_rfl) rfl #[.slice A2 l2.length c2] rfl zd6 ?_; (with_reducible refine (spec_l1Own.calls _ _ l2 t151 _ ?side1 ?side2 A4.out).mono ?_); (case side1 => exact zd7); (case side2 => exact HC2.out); rintro e w11 ⟨v152, rfl, ho0, hb⟩; refine ⟨_, rfl, ?_⟩; have n0_ := Aside0.mk (Kd.R_lower ho0 (below_size zd1)); have n1_ := Aside0.mk (blk_below (g := gb149) (o := .cells #[.int .i64 a0_0, .int .i64 a0_1, .slice A0_2 l0_2.length c0_2] 30 (0, 0)) zd2 hb); have n2_ := Aside0.mk (blk_below (g := gb150) (o := .cells #[.int .i64 a1_0, .int .i64 a1_1] 32 (0, 0)) zd3 hb); have n3_ := Aside0.mk (below_step zd1 hb); clear BK149; clear BK150; clear HB; have HO153 := n0_; have BK149 := n1_; have BK150 := n2_; have HB := n3_; clear n0_ n1_ n2_ n3_; (try clear hb); (try clear hb2); (try clear hk); (try clear hi); (try clear ho0); (try clear hna_); (try clear hnb_)))
   have n0_ := Aside0.mk (Kd.R_drew HO153.out)
   have n1_ := Aside0.mk (blk_drew BK149.out)
   have n2_ := Aside0.mk (blk_drew BK150.out)
   have n3_ := Aside0.mk (below_drew1 HB.out)
   clear HO153
   clear BK149
   clear BK150
   clear HB
   have HO153 := n0_
   have BK149 := n1_
   have BK150 := n2_
   have HB := n3_
   clear n0_ n1_ n2_ n3_
   have p154 : 0 ≤ ((ji5) : Int) := of_decide_eq_true zd13
   have q154 : (ji5) < (l2.length : Int) := of_decide_eq_true zd13
   obtain ⟨ad154, e154, hx154_0⟩ := Kd.at_int HR2.out (ji5) p154 q154
   have hw154_0 := hx154_0
   cases e154
   (first | replace hx154_0 := (HB.out.cell (World.block_lt_of_cell? w _ hx154_0)).trans hx154_0 | skip)
   replace p154 := eq_true p154
   replace q154 := eq_true q154
   refine start_ (n := 11) (S := fun w' => w'.cell? ⟨gb149, 0, none⟩ = some (.int .i64 a0_0) ∧ w'.cell? ⟨gb149, 1, none⟩ = some (.int .i64 a0_1) ∧ w'.cell? ⟨gb149, 2, none⟩ = some (.slice A0_2 l0_2.length c0_2) ∧ w'.cell? ⟨gb150, 0, none⟩ = some (.int .i64 a1_0) ∧ w'.cell? ⟨gb150, 1, none⟩ = some (.int .i64 a1_1) ∧ w'.cell? (ad154.add ((ji5)).toNat) = some (.int .i64 (rd l2 (ji5)))) (ds := []) #[false, false, false, false, false, false, false, false, false, false, false] (by kernel_rfl) rfl rfl ⟨(blk_cell BK149.out 0).trans rfl, (blk_cell BK149.out 1).trans rfl, (blk_cell BK149.out 2).trans rfl, (blk_cell BK150.out 0).trans rfl, (blk_cell BK150.out 1).trans rfl, ((HB.out.cell (World.block_lt_of_cell? w _ hw154_0)).trans hw154_0)⟩ (fun hHeld => ?_); refine with_tabW spec_toLongest.tab2 spec_toLongest.bits2 (fun HT_ HW_ => ?_)
   generalize w11.drew = w12 at HO153 BK149 BK150 HB hx154_0 hHeld ⊢
   refine pure_ (i := 2) (N := some 15) (v := ?_) (a' := ?_) #[false, false, true, false, false, false, false, false, false, false, false] rfl rfl (any_of HT_.out (by kernel_rfl)) (fun _ _ _ h => h) (Or.inl ⟨by rfl, ?_⟩) ?_ ?_
   rotate_left
   ·intro w'
    go_simp
    with_reducible rfl
   rotate_left
   ·simp only [Act.put, List.setIfInBounds_toArray, List.set_cons_zero, List.set_cons_succ, i64_w, i32_w]
    rfl
   refine pure_ (i := 3) (N := some 16) (v := ?_) (a' := ?_) #[false, false, true, true, false, false, false, false, false, false, false] rfl rfl (any_of HT_.out (by kernel_rfl)) (fun _ _ _ h => h) (Or.inl ⟨by rfl, ?_⟩) ?_ ?_
   rotate_left
   ·intro w'
    go_simp
    with_reducible rfl
   rotate_left
   ·simp only [Act.put, List.setIfInBounds_toArray, List.set_cons_zero, List.set_cons_succ, i64_w, i32_w]
    rfl
   refine pure_ (i := 4) (N := some 17) (v := ?_) (a' := ?_) #[false, false, true, true, true, false, false, false, false, false, false] rfl rfl (any_of HT_.out (by kernel_rfl)) (fun _ _ _ h => h) (Or.inl ⟨by rfl, ?_⟩) ?_ ?_
   rotate_left
   ·intro w'
    go_simp
    with_reducible rfl
   rotate_left
   ·simp only [Act.put, List.setIfInBounds_toArray, List.set_cons_zero, List.set_cons_succ, i64_w, i32_w]
    rfl
   refine pure_ (i := 5) (N := some 18) (v := ?_) (a' := ?_) #[false, false, true, true, true, true, false, false, false, false, false] rfl rfl (any_of HT_.out (by kernel_rfl)) (fun _ _ _ h => h) (Or.inl ⟨by rfl, ?_⟩) ?_ ?_
   rotate_left
   ·intro w'
    go_simp
    with_reducible rfl
   rotate_left
   ·simp only [Act.put, List.setIfInBounds_toArray, List.set_cons_zero, List.set_cons_succ, i64_w, i32_w]
    rfl
   refine pure_ (i := 6) (N := some 19) (v := ?_) (a' := ?_) #[false, false, true, true, true, true, true, false, false, false, false] rfl rfl (any_of HT_.out (by kernel_rfl)) (fun _ _ _ h => h) (Or.inl ⟨by rfl, ?_⟩) ?_ ?_
   rotate_left
   ·intro w'
    go_simp
    with_reducible rfl
   rotate_left
   ·simp only [Act.put, List.setIfInBounds_toArray, List.set_cons_zero, List.set_cons_succ, i64_w, i32_w]
    rfl
   refine pure_ (i := 10) (N := some 23) (v := ?_) (a' := ?_) #[false, false, true, true, true, true, true, false, false, false, true] rfl rfl (any_of HT_.out (by kernel_rfl)) (fun _ _ _ h => h) (Or.inl ⟨by rfl, ?_⟩) ?_ ?_
   rotate_left
   ·intro w'
    go_simp
    with_reducible rfl
   rotate_left
   ·simp only [Act.put, List.setIfInBounds_toArray, List.set_cons_zero, List.set_cons_succ, i64_w, i32_w]
    rfl
   refine take_ (i := 0) (N := some 13) (v := ?_) (a' := ?_) #[true, false, true, true, true, true, true, false, false, false, true] rfl rfl (take_ofW HT_.out HW_.out (by kernel_rfl)) (fun _ _ _ h => h) (Or.inl ⟨by rfl, ?_⟩) hHeld ?_ ?_
   rotate_left
   ·rintro w' ⟨s0, s1, s2, s3, s4, s5⟩
    go_simp
    with_reducible rfl
   rotate_left
   ·simp only [Act.put, List.setIfInBounds_toArray, List.set_cons_zero, List.set_cons_succ, i64_w, i32_w]
    rfl
   refine take_ (i := 1) (N := some 14) (v := ?_) (a' := ?_) #[true, true, true, true, true, true, true, false, false, false, true] rfl rfl (take_ofW HT_.out HW_.out (by kernel_rfl)) (fun _ _ _ h => h) (Or.inl ⟨by rfl, ?_⟩) hHeld ?_ ?_
   rotate_left
   ·rintro w' ⟨s0, s1, s2, s3, s4, s5⟩
    go_simp
    with_reducible rfl
   rotate_left
   ·simp only [Act.put, List.setIfInBounds_toArray, List.set_cons_zero, List.set_cons_succ, i64_w, i32_w]
    rfl
   refine take_ (i := 7) (N := some 20) (v := ?_) (a' := ?_) #[true, true, true, true, true, true, true, true, false, false, true] rfl rfl (take_ofW HT_.out HW_.out (by kernel_rfl)) (fun _ _ _ h => h) (Or.inl ⟨by rfl, ?_⟩) hHeld ?_ ?_
   rotate_left
   ·rintro w' ⟨s0, s1, s2, s3, s4, s5⟩
    go_simp
    with_reducible rfl
   rotate_left
   ·simp only [Act.put, List.setIfInBounds_toArray, List.set_cons_zero, List.set_cons_succ, i64_w, i32_w]
    rfl
   refine one_ (i := 8) (N := some 21) #[true, true, true, true, true, true, true, true, true, false, true] rfl rfl (one_of HT_.out (by kernel_rfl)) (by decide) (fun K hK => ?_)
   refine goes_ Try.func66 (by kernel_rfl) rfl #[.agg #[.int .i64 a0_0, .int .i64 a0_1, .slice A0_2 l0_2.length c0_2], .agg #[.int .i64 a1_0, .int .i64 a1_1], .int .i64 (rd l2 (ji5))] (by rfl) rfl rfl (by (try simp only [List.map_toArray, List.map_cons, List.map_nil]); first | done | (simp only [hji5]; rfl) | rfl | (simp only [List.length_drop, List.length_take]; rfl)) ?_
   with_reducible refine (spec_boLeaps.calls k a0_0 a0_1 _ _ l0_2 a1_0 a1_1 (rd l2 (ji5)) t155 _ ?side1 ?side2 A8.out).mono ?_
   (case side1 => exact zd11)
   (case side2 => exact HC0_2.out)
   rintro e w13 ⟨v156, rfl, ho0, hb⟩
   refine ⟨_, rfl, ?_⟩
   have n0_ := Aside0.mk (Kd.R_elder' (by first | exact HO153.out | ((with_reducible repeat (first | apply Kd.R_alloc | apply Kd.R_drewN | apply Kd.R_drew)); exact HO153.out)) (Kd.R_base ho0) hb)
   have n1_ := Aside0.mk (Kd.R_lower (Kd.R_new' ho0 (Kd.R_lt (by first | exact HO153.out | ((with_reducible repeat (first | apply Kd.R_alloc | apply Kd.R_drewN | apply Kd.R_drew)); exact HO153.out)))) (below_size zd1))
   have n2_ := Aside0.mk (blk_below (g := gb149) (o := .cells #[.int .i64 a0_0, .int .i64 a0_1, .slice A0_2 l0_2.length c0_2] 30 (0, 0)) zd2 hb)
   have n3_ := Aside0.mk (blk_below (g := gb150) (o := .cells #[.int .i64 a1_0, .int .i64 a1_1] 32 (0, 0)) zd3 hb)
   have n4_ := Aside0.mk (below_step zd1 hb)
   clear HO153
   clear BK149
   clear BK150
   clear HB
   have HO153 := n0_
   have HO157 := n1_
   have BK149 := n2_
   have BK150 := n3_
   have HB := n4_
   clear n0_ n1_ n2_ n3_ n4_
   (try clear hb)
   (try clear hb2)
   (try clear hk)
   (try clear hi)
   (try clear ho0)
   (try clear hna_)
   (try clear hnb_)
   obtain ⟨Ao14, co14, eo14⟩ := Kd.R_slice HO157.out
   (first | subst eo14 | (injection eo14 with f1_ f2_ f3_; have f4_ := f1_.symm; have f5_ := f3_.symm; clear f1_ f2_ f3_; subst f4_; subst f5_))
   refine hK.out _ _ ⟨(blk_cell BK149.out 0).trans rfl, (blk_cell BK149.out 1).trans rfl, (blk_cell BK149.out 2).trans rfl, (blk_cell BK150.out 0).trans rfl, (blk_cell BK150.out 1).trans rfl, ((HB.out.cell (World.block_lt_of_cell? w _ hw154_0)).trans hw154_0)⟩ (fun hHeld => ?_)
   clear hK K
   refine norm_ (a' := ?_) ?_ ?_
   rotate_left
   ·show Act.put _ (some 21) _ = _
    simp only [Act.put, List.setIfInBounds_toArray, List.set_cons_zero, List.set_cons_succ, i64_w, i32_w]
    rfl
   refine pure_ (i := 9) (N := some 22) (v := ?_) (a' := ?_) #[true, true, true, true, true, true, true, true, true, true, true] rfl rfl (any_of HT_.out (by kernel_rfl)) (fun _ _ _ h => h) (Or.inl ⟨by rfl, ?_⟩) ?_ ?_
   rotate_left
   ·intro w'
    go_simp
    with_reducible rfl
   rotate_left
   ·simp only [Act.put, List.setIfInBounds_toArray, List.set_cons_zero, List.set_cons_succ, i64_w, i32_w]
    rfl
   refine done_ (done_of HT_.out (by kernel_rfl)) ?_
   try go_wp2
   go_loopg [7, 23] k (fun kq v7 v23 w' => ∃ (x7_1 : List Int) (x23_1 : Int), v23 = .int .i64 x23_1 ∧ Aside0 (spec_toLongest.l0 kq l2 x7_1 t155 (t155.length : Int) x23_1 a0_0 a0_1 l0_2 a1_0 a1_1 = some r) ∧ Aside0 (kq ≤ k) ∧ Aside0 (Kd.R (Kd.int .i64) 3 w' w.heap.size (fun k_ => some k_ ≠ ((.slice Ao14 t155.length co14) : Value).ownBlock) v7 x7_1) ∧ Aside0 (Kd.R (Kd.int .i64) 3 w' w.heap.size (fun k_ => some k_ ≠ (v7 : Value).ownBlock) (.slice Ao14 t155.length co14) t155) ∧ Aside0 (w'.heap[gb149]? = some (.cells #[.int .i64 a0_0, .int .i64 a0_1, (.slice A0_2 l0_2.length c0_2)] 30 (0, 0))) ∧ Aside0 (w'.heap[gb150]? = some (.cells #[.int .i64 a1_0, .int .i64 a1_1] 32 (0, 0))) ∧ Aside0 (Below w.heap.size w w'))
   case atStart => exact ⟨(t151), (0), zd27, H', ⟨Nat.le_refl _⟩, ⟨by (with_reducible repeat (first | apply Kd.R_alloc | apply Kd.R_drewN | apply Kd.R_drew)); exact Kd.R_mono HO153.out (fun _ hk => hk.2)⟩, ⟨by (with_reducible repeat (first | apply Kd.R_alloc | apply Kd.R_drewN | apply Kd.R_drew)); exact Kd.R_mono HO157.out (fun _ hk => hk.2)⟩, ⟨zd2⟩, ⟨zd3⟩, ⟨zd1⟩⟩
   case round =>
    clear H'
    try clear p1; try clear q1; try clear hx1; try clear c2; try clear p2; try clear c4; try clear c6; try clear c6b0; try clear p6; try clear c7; try clear c7b0; try clear hx154_0; try clear p154; try clear q154
    obtain ⟨x7_1, x23_1, rfl, HA, HK1, HO_7, HO_21, BK149, BK150, HB⟩ := hrel
    cases gk with
    | zero => exact absurd HA.out (by simp [spec_toLongest.l0])
    | succ k1 =>
     have H := HA.out
     clear HA
     simp only [spec_toLongest.l0] at H
     by_cases c15 : x23_1 < (t155.length : Int)
     ·rw [if_pos c15] at H
      have c15b0 : decide (x23_1 < (t155.length : Int)) = true := decide_eq_true c15
      clear c15
      by_cases c16 : 0 ≤ x23_1
      ·rw [if_pos c16] at H
       have c16b0 : decide (0 ≤ x23_1) = true := decide_eq_true c16
       clear c16
       by_cases c17 : x23_1 < (t155.length : Int)
       ·rw [if_pos c17] at H
        have c17b0 : decide (x23_1 < (t155.length : Int)) = true := decide_eq_true c17
        clear c17
        replace H := Option.bind_eq_some_iff.mp H
        obtain ⟨t159, A180, H⟩ := H
        replace H : (if t159 = true then (spec_toLongest.l0 k1 l2 x7_1 t155 (t155.length : Int) (wrap64 (x23_1 + 1)) a0_0 a0_1 l0_2 a1_0 a1_1) else ((spec_l1Own.f l2).bind fun t160 => ((some (([rd t155 x23_1] : List Int) : List Int)).bind fun y163 => (if t160.length + y163.length < 17592186044416 then ((spec_toLongest.f k1 a0_0 a0_1 l0_2 a1_0 a1_1 (t160 ++ y163)).bind fun t169 => (if (t169.length : Int) > (x7_1.length : Int) then (spec_toLongest.l0 k1 l2 t169 t155 (t155.length : Int) (wrap64 (x23_1 + 1)) a0_0 a0_1 l0_2 a1_0 a1_1) else (spec_toLongest.l0 k1 l2 x7_1 t155 (t155.length : Int) (wrap64 (x23_1 + 1)) a0_0 a0_1 l0_2 a1_0 a1_1))) else (none))))) = some r := H
        have A18 := Aside0.mk A180
        clear A180
        by_cases c19 : t159 = true
        ·subst c19
         have H1 : (spec_toLongest.l0 k1 l2 x7_1 t155 (t155.length : Int) (wrap64 (x23_1 + 1)) a0_0 a0_1 l0_2 a1_0 a1_1) = some r := by rw [if_pos rfl] at H; exact H
         clear H
         have H := H1
         clear H1
         have H' := Aside0.mk H
         clear H
         have p158 : 0 ≤ (x23_1 : Int) := of_decide_eq_true zd13
         have q158 : x23_1 < (t155.length : Int) := of_decide_eq_true zd13
         obtain ⟨ad158, e158, hx158_0⟩ := Kd.at_int (Kd.R_reads' HO_21.out).2.2 x23_1 p158 q158
         cases e158
         replace p158 := eq_true p158
         replace q158 := eq_true q158
         go_wp2_with (first | ((with_reducible refine gate_callee (f := 67) rfl ?_); refine goesL_ (some 29) rfl rfl Try.func67 (by kernel_rfl) rfl #[.slice (some ad154) l2.length c2, .int .i64 (rd t155 x23_1)] rfl zd6 ?_; (with_reducible refine (spec_l1Has.calls k1 _ _ l2 (rd t155 x23_1) true _ ?side1 ?side2 A18.out).mono ?_); (case side1 => exact zd7); (case side2 => exact HC2.out); rintro e w' ⟨rfl, ⟨nd, rfl⟩⟩; refine ⟨_, rfl, ?_⟩))
         go_roundg k1
         case measure => have := HK1.out; omega
         case rel => exact ⟨(x7_1), (wrap64 (x23_1 + 1)), zd27, H', ⟨by have := HK1.out; omega⟩, ⟨zd5⟩, ⟨zd4⟩, ⟨zd2⟩, ⟨zd3⟩, ⟨zd1⟩⟩
        ·replace c19 := Bool.eq_false_iff.mpr c19
         subst c19
         have H1 : ((spec_l1Own.f l2).bind fun t160 => ((some (([rd t155 x23_1] : List Int) : List Int)).bind fun y163 => (if t160.length + y163.length < 17592186044416 then ((spec_toLongest.f k1 a0_0 a0_1 l0_2 a1_0 a1_1 (t160 ++ y163)).bind fun t169 => (if (t169.length : Int) > (x7_1.length : Int) then (spec_toLongest.l0 k1 l2 t169 t155 (t155.length : Int) (wrap64 (x23_1 + 1)) a0_0 a0_1 l0_2 a1_0 a1_1) else (spec_toLongest.l0 k1 l2 x7_1 t155 (t155.length : Int) (wrap64 (x23_1 + 1)) a0_0 a0_1 l0_2 a1_0 a1_1))) else (none)))) = some r := by rw [if_neg (show ¬ (false = true) by decide)] at H; exact H
         clear H
         have H := H1
         clear H1
         replace H := Option.bind_eq_some_iff.mp H
         obtain ⟨t160, A200, H⟩ := H
         replace H : ((some (([rd t155 x23_1] : List Int) : List Int)).bind fun y163 => (if t160.length + y163.length < 17592186044416 then ((spec_toLongest.f k1 a0_0 a0_1 l0_2 a1_0 a1_1 (t160 ++ y163)).bind fun t169 => (if (t169.length : Int) > (x7_1.length : Int) then (spec_toLongest.l0 k1 l2 t169 t155 (t155.length : Int) (wrap64 (x23_1 + 1)) a0_0 a0_1 l0_2 a1_0 a1_1) else (spec_toLongest.l0 k1 l2 x7_1 t155 (t155.length : Int) (wrap64 (x23_1 + 1)) a0_0 a0_1 l0_2 a1_0 a1_1))) else (none))) = some r := H
         have A20 := Aside0.mk A200
         clear A200
         obtain ⟨y163, hy163⟩ : ∃ y_ : List Int, y_ = (([rd t155 x23_1] : List Int)) := ⟨_, rfl⟩
         replace H : (if t160.length + y163.length < 17592186044416 then ((spec_toLongest.f k1 a0_0 a0_1 l0_2 a1_0 a1_1 (t160 ++ y163)).bind fun t169 => (if (t169.length : Int) > (x7_1.length : Int) then (spec_toLongest.l0 k1 l2 t169 t155 (t155.length : Int) (wrap64 (x23_1 + 1)) a0_0 a0_1 l0_2 a1_0 a1_1) else (spec_toLongest.l0 k1 l2 x7_1 t155 (t155.length : Int) (wrap64 (x23_1 + 1)) a0_0 a0_1 l0_2 a1_0 a1_1))) else (none)) = some r := by first | (rw [hy163]; with_reducible exact H) | (have H2_ := (Option.bind_some _ _).symm.trans H; rw [hy163]; with_reducible exact H2_) | (have H2_ := (Option.bind_some _ _).symm.trans H; with_reducible exact H2_) | with_reducible exact H | (rw [hy163]; exact H) | exact H
         have Ny163 := Aside0.mk hy163
         clear hy163
         by_cases c21 : t160.length + y163.length < 17592186044416
         ·rw [if_pos c21] at H
          have LMc21 := Aside0.mk c21
          clear c21
          obtain ⟨y166, hy166⟩ : ∃ y_ : List Int, y_ = (t160 ++ y163) := ⟨_, rfl⟩
          replace H : ((spec_toLongest.f k1 a0_0 a0_1 l0_2 a1_0 a1_1 y166).bind fun t169 => (if (t169.length : Int) > (x7_1.length : Int) then (spec_toLongest.l0 k1 l2 t169 t155 (t155.length : Int) (wrap64 (x23_1 + 1)) a0_0 a0_1 l0_2 a1_0 a1_1) else (spec_toLongest.l0 k1 l2 x7_1 t155 (t155.length : Int) (wrap64 (x23_1 + 1)) a0_0 a0_1 l0_2 a1_0 a1_1))) = some r := by first | (rw [hy166]; with_reducible exact H) | (have H2_ := (Option.bind_some _ _).symm.trans H; rw [hy166]; with_reducible exact H2_) | (have H2_ := (Option.bind_some _ _).symm.trans H; with_reducible exact H2_) | with_reducible exact H | (rw [hy166]; exact H) | exact H
          have Ny166 := Aside0.mk hy166
          clear hy166
          replace H := Option.bind_eq_some_iff.mp H
          obtain ⟨t169, A220, H⟩ := H
          replace H : (if (t169.length : Int) > (x7_1.length : Int) then (spec_toLongest.l0 k1 l2 t169 t155 (t155.length : Int) (wrap64 (x23_1 + 1)) a0_0 a0_1 l0_2 a1_0 a1_1) else (spec_toLongest.l0 k1 l2 x7_1 t155 (t155.length : Int) (wrap64 (x23_1 + 1)) a0_0 a0_1 l0_2 a1_0 a1_1)) = some r := H
          have A22 := Aside0.mk A220
          clear A220
          by_cases c23 : (t169.length : Int) > (x7_1.length : Int)
          ·rw [if_pos c23] at H
           have c23b0 : decide ((x7_1.length : Int) < (t169.length : Int)) = true := decide_eq_true c23
           have c23b1 : decide (x7_1.length < t169.length) = true := decide_eq_true (Int.ofNat_lt.mp c23)
           clear c23
           have H' := Aside0.mk H
           clear H
           have p158 : 0 ≤ (x23_1 : Int) := of_decide_eq_true zd13
           have q158 : x23_1 < (t155.length : Int) := of_decide_eq_true zd13
           obtain ⟨ad158, e158, hx158_0⟩ := Kd.at_int (Kd.R_reads' HO_21.out).2.2 x23_1 p158 q158
           cases e158
           replace p158 := eq_true p158
           replace q158 := eq_true q158
           try go_wp2_with (first | ((with_reducible refine gate_callee (f := 67) rfl ?_); refine goesL_ (some 29) rfl rfl Try.func67 (by kernel_rfl) rfl #[.slice (some ad154) l2.length c2, .int .i64 (rd t155 x23_1)] rfl zd6 ?_; (with_reducible refine (spec_l1Has.calls k1 _ _ l2 (rd t155 x23_1) false _ ?side1 ?side2 A18.out).mono ?_); (case side1 => exact zd7); (case side2 => exact HC2.out); rintro e w' ⟨rfl, ⟨nd, rfl⟩⟩; refine ⟨_, rfl, ?_⟩))
           (try (rw [drewN_self wr]; generalize hq_ : World.drewN wr _ = wr; have n0_ : Aside0 (Kd.R (Kd.int .i64) 3 wr w.heap.size (fun k_ => some k_ ≠ (u7 : Value).ownBlock) (.slice (some ad158) t155.length co14) t155) := ⟨by rw [← hq_]; exact zd4⟩; have n1_ : Aside0 (Kd.R (Kd.int .i64) 3 wr w.heap.size (fun k_ => some k_ ≠ (.slice (some ad158) t155.length co14 : Value).ownBlock) u7 x7_1) := ⟨by rw [← hq_]; exact zd5⟩; have n2_ : Aside0 (wr.heap[gb149]? = some (.cells #[.int .i64 a0_0, .int .i64 a0_1, .slice A0_2 l0_2.length c0_2] 30 (0, 0))) := ⟨by rw [← hq_]; exact zd2⟩; have n3_ : Aside0 (wr.heap[gb150]? = some (.cells #[.int .i64 a1_0, .int .i64 a1_1] 32 (0, 0))) := ⟨by rw [← hq_]; exact zd3⟩; have n4_ : Aside0 (Below w.heap.size w wr) := ⟨by rw [← hq_]; exact zd1⟩; clear HO_21 HO_7 BK149 BK150 HB hq_; have HO_21 := n0_; have HO_7 := n1_; have BK149 := n2_; have BK150 := n3_; have HB := n4_; clear n0_ n1_ n2_ n3_ n4_))
           have n0_ := Aside0.mk (Kd.R_drew HO_7.out)
           have n1_ := Aside0.mk (Kd.R_drew HO_21.out)
           have n2_ := Aside0.mk (blk_drew BK149.out)
           have n3_ := Aside0.mk (blk_drew BK150.out)
           have n4_ := Aside0.mk (below_drew1 HB.out)
           clear HO_7
           clear HO_21
           clear BK149
           clear BK150
           clear HB
           have HO_7 := n0_
           have HO_21 := n1_
           have BK149 := n2_
           have BK150 := n3_
           have HB := n4_
           clear n0_ n1_ n2_ n3_ n4_
           refine start_ (n := 9) (S := fun w' => w'.cell? ⟨gb149, 0, none⟩ = some (.int .i64 a0_0) ∧ w'.cell? ⟨gb149, 1, none⟩ = some (.int .i64 a0_1) ∧ w'.cell? ⟨gb149, 2, none⟩ = some (.slice A0_2 l0_2.length c0_2) ∧ w'.cell? ⟨gb150, 0, none⟩ = some (.int .i64 a1_0) ∧ w'.cell? ⟨gb150, 1, none⟩ = some (.int .i64 a1_1)) (ds := []) #[false, false, false, false, false, false, false, false, false] (by kernel_rfl) rfl rfl ⟨(blk_cell BK149.out 0).trans rfl, (blk_cell BK149.out 1).trans rfl, (blk_cell BK149.out 2).trans rfl, (blk_cell BK150.out 0).trans rfl, (blk_cell BK150.out 1).trans rfl⟩ (fun hHeld => ?_); refine with_tabW spec_toLongest.tab6 spec_toLongest.bits6 (fun HT_ HW_ => ?_)
           generalize wr.drew = w24 at HO_7 HO_21 BK149 BK150 HB hHeld ⊢
           refine pure_ (i := 2) (N := some 32) (v := ?_) (a' := ?_) #[false, false, true, false, false, false, false, false, false] rfl rfl (any_of HT_.out (by kernel_rfl)) (fun _ _ _ h => h) (Or.inl ⟨by rfl, ?_⟩) ?_ ?_
           rotate_left
           ·intro w'
            go_simp
            with_reducible rfl
           rotate_left
           ·simp only [Act.put, List.setIfInBounds_toArray, List.set_cons_zero, List.set_cons_succ, i64_w, i32_w]
            rfl
           refine pure_ (i := 4) (N := some 34) (v := ?_) (a' := ?_) #[false, false, true, false, true, false, false, false, false] rfl rfl (any_of HT_.out (by kernel_rfl)) (fun _ _ _ h => h) (Or.inl ⟨by rfl, ?_⟩) ?_ ?_
           rotate_left
           ·intro w'
            go_simp
            with_reducible rfl
           rotate_left
           ·simp only [Act.put, List.setIfInBounds_toArray, List.set_cons_zero, List.set_cons_succ, i64_w, i32_w]
            rfl
           refine take_ (i := 0) (N := some 30) (v := ?_) (a' := ?_) #[true, false, true, false, true, false, false, false, false] rfl rfl (take_ofW HT_.out HW_.out (by kernel_rfl)) (fun _ _ _ h => h) (Or.inl ⟨by rfl, ?_⟩) hHeld ?_ ?_
           rotate_left
           ·rintro w' ⟨s0, s1, s2, s3, s4⟩
            go_simp
            with_reducible rfl
           rotate_left
           ·simp only [Act.put, List.setIfInBounds_toArray, List.set_cons_zero, List.set_cons_succ, i64_w, i32_w]
            rfl
           refine take_ (i := 1) (N := some 31) (v := ?_) (a' := ?_) #[true, true, true, false, true, false, false, false, false] rfl rfl (take_ofW HT_.out HW_.out (by kernel_rfl)) (fun _ _ _ h => h) (Or.inl ⟨by rfl, ?_⟩) hHeld ?_ ?_
           rotate_left
           ·rintro w' ⟨s0, s1, s2, s3, s4⟩
            go_simp
            with_reducible rfl
           rotate_left
           ·simp only [Act.put, List.setIfInBounds_toArray, List.set_cons_zero, List.set_cons_succ, i64_w, i32_w]
            rfl
           refine join_ (σ := Value × Value) 3 #[true, true, true, true, true, true, false, false, false] (fun s_ => [(33, s_.1), (35, s_.2)]) (fun s_ w' => (w'.cell? ⟨gb149, 0, none⟩ = some (.int .i64 a0_0) ∧ w'.cell? ⟨gb149, 1, none⟩ = some (.int .i64 a0_1) ∧ w'.cell? ⟨gb149, 2, none⟩ = some (.slice A0_2 l0_2.length c0_2) ∧ w'.cell? ⟨gb150, 0, none⟩ = some (.int .i64 a1_0) ∧ w'.cell? ⟨gb150, 1, none⟩ = some (.int .i64 a1_1)) ∧ (Kd.R (Kd.int .i64) 3 w' w.heap.size (fun k_ => some k_ ≠ (s_.2 : Value).ownBlock ∧ some k_ ≠ (.slice (some ad158) t155.length co14 : Value).ownBlock ∧ some k_ ≠ (u7 : Value).ownBlock) s_.1 t160) ∧ (Kd.R (Kd.int .i64) 3 w' w.heap.size (fun k_ => some k_ ≠ (s_.1 : Value).ownBlock ∧ some k_ ≠ (.slice (some ad158) t155.length co14 : Value).ownBlock ∧ some k_ ≠ (u7 : Value).ownBlock) s_.2 y163) ∧ (Kd.R (Kd.int .i64) 3 w' w.heap.size (fun k_ => some k_ ≠ (s_.1 : Value).ownBlock ∧ some k_ ≠ (s_.2 : Value).ownBlock ∧ some k_ ≠ (u7 : Value).ownBlock) (.slice (some ad158) t155.length co14) t155) ∧ (Kd.R (Kd.int .i64) 3 w' w.heap.size (fun k_ => some k_ ≠ (s_.1 : Value).ownBlock ∧ some k_ ≠ (s_.2 : Value).ownBlock ∧ some k_ ≠ (.slice (some ad158) t155.length co14 : Value).ownBlock) u7 x7_1) ∧ (w'.heap[gb149]? = some (.cells #[.int .i64 a0_0, .int .i64 a0_1, .slice A0_2 l0_2.length c0_2] 30 (0, 0))) ∧ (w'.heap[gb150]? = some (.cells #[.int .i64 a1_0, .int .i64 a1_1] 32 (0, 0))) ∧ (Below w.heap.size w w')) ?_ ?_
           rotate_left
           ·intro hCont
            refine two_ (i := 3) (j := 5) (Ni := some 33) (Nj := some 35) #[true, true, true, true, true, false, false, false, false] #[true, true, true, false, true, true, false, false, false] rfl rfl rfl rfl (two_of HT_.out (by kernel_rfl)) (by decide) (by decide) (fun K hK => ?_) (fun K hK => ?_)
            ·skip
             refine goes_ Try.func65 (by kernel_rfl) rfl #[.slice (some ad154) l2.length c2] (by rfl) rfl rfl zd6 ?_
             with_reducible refine (spec_l1Own.calls _ _ l2 t160 _ ?side1 ?side2 A20.out).mono ?_
             (case side1 => exact zd7)
             (case side2 => exact HC2.out)
             rintro e w25 ⟨v161, rfl, ho0, hb⟩
             refine ⟨_, rfl, ?_⟩
             have n0_ := Aside0.mk (Kd.R_elder' zd5 (Kd.R_base ho0) hb)
             have n1_ := Aside0.mk (Kd.R_elder' zd4 (Kd.R_base ho0) hb)
             have n2_ := Aside0.mk (Kd.R_lower (Kd.R_new' (Kd.R_new' ho0 (Kd.R_lt zd5)) (Kd.R_lt zd4)) (below_size zd1))
             have n3_ := Aside0.mk (blk_below (g := gb149) (o := .cells #[.int .i64 a0_0, .int .i64 a0_1, .slice A0_2 l0_2.length c0_2] 30 (0, 0)) zd2 hb)
             have n4_ := Aside0.mk (blk_below (g := gb150) (o := .cells #[.int .i64 a1_0, .int .i64 a1_1] 32 (0, 0)) zd3 hb)
             have n5_ := Aside0.mk (below_step zd1 hb)
             clear HO_7
             clear HO_21
             clear BK149
             clear BK150
             clear HB
             have HO_7 := n0_
             have HO_21 := n1_
             have HO162 := n2_
             have BK149 := n3_
             have BK150 := n4_
             have HB := n5_
             clear n0_ n1_ n2_ n3_ n4_ n5_
             (try clear hb)
             (try clear hb2)
             (try clear hk)
             (try clear hi)
             (try clear ho0)
             (try clear hna_)
             (try clear hnb_)
             refine hK.out _ _ ⟨(blk_cell BK149.out 0).trans rfl, (blk_cell BK149.out 1).trans rfl, (blk_cell BK149.out 2).trans rfl, (blk_cell BK150.out 0).trans rfl, (blk_cell BK150.out 1).trans rfl⟩ (fun hHeld => ?_)
             clear hK K
             refine norm_ (a' := ?_) ?_ ?_
             rotate_left
             ·show Act.put _ (some 33) _ = _
              simp only [Act.put, List.setIfInBounds_toArray, List.set_cons_zero, List.set_cons_succ, i64_w, i32_w]
              rfl
             refine one_ (i := 5) (N := some 35) #[true, true, true, true, true, true, false, false, false] rfl rfl (one_of HT_.out (by kernel_rfl)) (by decide) (fun K hK => ?_)
             refine Kd.R_lit_step (Kd.int .i64) _ 3 ?hg (N := 35) ?hd (xs := ([rd t155 x23_1] : List Int)) (inner := [.int .i64 (rd t155 x23_1)]) (ok := fun _ => True) (okp := fun _ => True) ?hr ?hp (fun _ hk => hk) trivial (Below.refl _ _) (Nat.le_refl _) (by simp) ?_; (case hd => rfl); (case hg => rfl); (case hr => first | (go_simp; done) | (go_simp; rfl)); (case hp => exact (Reps.one (show Kd.M (Kd.int .i64) _ _ _ (rd t155 x23_1) [.int .i64 (rd t155 x23_1)] from rfl) (Reps.none _ _)))
             intro v164 w26 ho27 hb hg_ hnew_
             clear hg_ hnew_
             (first | rw [← Ny163.out] at ho27 | (simp only [Int.reduceToNat] at ho27; rw [← Ny163.out] at ho27))
             have n0_ := Aside0.mk (Kd.R_elder' zd5 (Kd.R_base ho27) hb)
             have n1_ := Aside0.mk (Kd.R_elder' zd4 (Kd.R_base ho27) hb)
             have n2_ := Aside0.mk (Kd.R_elder' zd15 (Kd.R_base ho27) hb)
             have n3_ := Aside0.mk (Kd.R_lower (Kd.R_new' (Kd.R_new' (Kd.R_new' ho27 (Kd.R_lt zd5)) (Kd.R_lt zd4)) (Kd.R_lt zd15)) (below_size zd1))
             have n4_ := Aside0.mk (blk_below (g := gb149) (o := .cells #[.int .i64 a0_0, .int .i64 a0_1, .slice A0_2 l0_2.length c0_2] 30 (0, 0)) zd2 hb)
             have n5_ := Aside0.mk (blk_below (g := gb150) (o := .cells #[.int .i64 a1_0, .int .i64 a1_1] 32 (0, 0)) zd3 hb)
             have n6_ := Aside0.mk (below_step zd1 hb)
             clear HO_7
             clear HO_21
             clear HO162
             clear BK149
             clear BK150
             clear HB
             have HO_7 := n0_
             have HO_21 := n1_
             have HO162 := n2_
             have HO165 := n3_
             have BK149 := n4_
             have BK150 := n5_
             have HB := n6_
             clear n0_ n1_ n2_ n3_ n4_ n5_ n6_
             clear hb ho27
             refine hK.out _ _ ⟨(blk_cell BK149.out 0).trans rfl, (blk_cell BK149.out 1).trans rfl, (blk_cell BK149.out 2).trans rfl, (blk_cell BK150.out 0).trans rfl, (blk_cell BK150.out 1).trans rfl⟩ (fun hHeld => ?_)
             clear hK K
             refine norm_ (a' := ?_) ?_ ?_
             rotate_left
             ·show Act.put _ (some 35) _ = _
              simp only [Act.put, List.setIfInBounds_toArray, List.set_cons_zero, List.set_cons_succ, i64_w, i32_w]
              rfl
             exact norm_ zd16 (hCont (v161, v164) _ ⟨hHeld, zd10, zd9, zd21, zd26, zd2, zd3, zd1⟩)
            ·skip
             refine Kd.R_lit_step (Kd.int .i64) _ 3 ?hg (N := 35) ?hd (xs := ([rd t155 x23_1] : List Int)) (inner := [.int .i64 (rd t155 x23_1)]) (ok := fun _ => True) (okp := fun _ => True) ?hr ?hp (fun _ hk => hk) trivial (Below.refl _ _) (Nat.le_refl _) (by simp) ?_; (case hd => rfl); (case hg => rfl); (case hr => first | (go_simp; done) | (go_simp; rfl)); (case hp => exact (Reps.one (show Kd.M (Kd.int .i64) _ _ _ (rd t155 x23_1) [.int .i64 (rd t155 x23_1)] from rfl) (Reps.none _ _)))
             intro v164 w25 ho26 hb hg_ hnew_
             clear hg_ hnew_
             (first | rw [← Ny163.out] at ho26 | (simp only [Int.reduceToNat] at ho26; rw [← Ny163.out] at ho26))
             have n0_ := Aside0.mk (Kd.R_elder' zd5 (Kd.R_base ho26) hb)
             have n1_ := Aside0.mk (Kd.R_elder' zd4 (Kd.R_base ho26) hb)
             have n2_ := Aside0.mk (Kd.R_lower (Kd.R_new' (Kd.R_new' ho26 (Kd.R_lt zd5)) (Kd.R_lt zd4)) (below_size zd1))
             have n3_ := Aside0.mk (blk_below (g := gb149) (o := .cells #[.int .i64 a0_0, .int .i64 a0_1, .slice A0_2 l0_2.length c0_2] 30 (0, 0)) zd2 hb)
             have n4_ := Aside0.mk (blk_below (g := gb150) (o := .cells #[.int .i64 a1_0, .int .i64 a1_1] 32 (0, 0)) zd3 hb)
             have n5_ := Aside0.mk (below_step zd1 hb)
             clear HO_7
             clear HO_21
             clear BK149
             clear BK150
             clear HB
             have HO_7 := n0_
             have HO_21 := n1_
             have HO165 := n2_
             have BK149 := n3_
             have BK150 := n4_
             have HB := n5_
             clear n0_ n1_ n2_ n3_ n4_ n5_
             clear hb ho26
             refine hK.out _ _ ⟨(blk_cell BK149.out 0).trans rfl, (blk_cell BK149.out 1).trans rfl, (blk_cell BK149.out 2).trans rfl, (blk_cell BK150.out 0).trans rfl, (blk_cell BK150.out 1).trans rfl⟩ (fun hHeld => ?_)
             clear hK K
             refine norm_ (a' := ?_) ?_ ?_
             rotate_left
             ·show Act.put _ (some 35) _ = _
              simp only [Act.put, List.setIfInBounds_toArray, List.set_cons_zero, List.set_cons_succ, i64_w, i32_w]
              rfl
             refine one_ (i := 3) (N := some 33) #[true, true, true, true, true, true, false, false, false] rfl rfl (one_of HT_.out (by kernel_rfl)) (by decide) (fun K hK => ?_)
             refine goes_ Try.func65 (by kernel_rfl) rfl #[.slice (some ad154) l2.length c2] (by rfl) rfl rfl zd6 ?_
             with_reducible refine (spec_l1Own.calls _ _ l2 t160 _ ?side1 ?side2 A20.out).mono ?_
             (case side1 => exact zd7)
             (case side2 => exact HC2.out)
             rintro e w27 ⟨v161, rfl, ho0, hb⟩
             refine ⟨_, rfl, ?_⟩
             have n0_ := Aside0.mk (Kd.R_elder' zd5 (Kd.R_base ho0) hb)
             have n1_ := Aside0.mk (Kd.R_elder' zd4 (Kd.R_base ho0) hb)
             have n2_ := Aside0.mk (Kd.R_elder' zd8 (Kd.R_base ho0) hb)
             have n3_ := Aside0.mk (Kd.R_lower (Kd.R_new' (Kd.R_new' (Kd.R_new' ho0 (Kd.R_lt zd5)) (Kd.R_lt zd4)) (Kd.R_lt zd8)) (below_size zd1))
             have n4_ := Aside0.mk (blk_below (g := gb149) (o := .cells #[.int .i64 a0_0, .int .i64 a0_1, .slice A0_2 l0_2.length c0_2] 30 (0, 0)) zd2 hb)
             have n5_ := Aside0.mk (blk_below (g := gb150) (o := .cells #[.int .i64 a1_0, .int .i64 a1_1] 32 (0, 0)) zd3 hb)
             have n6_ := Aside0.mk (below_step zd1 hb)
             clear HO_7
             clear HO_21
             clear HO165
             clear BK149
             clear BK150
             clear HB
             have HO_7 := n0_
             have HO_21 := n1_
             have HO165 := n2_
             have HO162 := n3_
             have BK149 := n4_
             have BK150 := n5_
             have HB := n6_
             clear n0_ n1_ n2_ n3_ n4_ n5_ n6_
             (try clear hb)
             (try clear hb2)
             (try clear hk)
             (try clear hi)
             (try clear ho0)
             (try clear hna_)
             (try clear hnb_)
             refine hK.out _ _ ⟨(blk_cell BK149.out 0).trans rfl, (blk_cell BK149.out 1).trans rfl, (blk_cell BK149.out 2).trans rfl, (blk_cell BK150.out 0).trans rfl, (blk_cell BK150.out 1).trans rfl⟩ (fun hHeld => ?_)
             clear hK K
             refine norm_ (a' := ?_) ?_ ?_
             rotate_left
             ·show Act.put _ (some 33) _ = _
              simp only [Act.put, List.setIfInBounds_toArray, List.set_cons_zero, List.set_cons_succ, i64_w, i32_w]
              rfl
             exact norm_ zd16 (hCont (v161, v164) _ ⟨hHeld, zd10, zd9, zd20, zd25, zd2, zd3, zd1⟩)
           rintro ⟨v161, v164⟩ w28 ⟨hS_, h0_, h1_, h2_, h3_, h4_, h5_, h6_⟩
           have n0_ : Aside0 (Kd.R (Kd.int .i64) 3 w28 w.heap.size (fun k_ => some k_ ≠ (v164 : Value).ownBlock ∧ some k_ ≠ (.slice (some ad158) t155.length co14 : Value).ownBlock ∧ some k_ ≠ (u7 : Value).ownBlock) v161 t160) := ⟨h0_⟩
           have n1_ : Aside0 (Kd.R (Kd.int .i64) 3 w28 w.heap.size (fun k_ => some k_ ≠ (v161 : Value).ownBlock ∧ some k_ ≠ (.slice (some ad158) t155.length co14 : Value).ownBlock ∧ some k_ ≠ (u7 : Value).ownBlock) v164 y163) := ⟨h1_⟩
           have n2_ : Aside0 (Kd.R (Kd.int .i64) 3 w28 w.heap.size (fun k_ => some k_ ≠ (v161 : Value).ownBlock ∧ some k_ ≠ (v164 : Value).ownBlock ∧ some k_ ≠ (u7 : Value).ownBlock) (.slice (some ad158) t155.length co14) t155) := ⟨h2_⟩
           have n3_ : Aside0 (Kd.R (Kd.int .i64) 3 w28 w.heap.size (fun k_ => some k_ ≠ (v161 : Value).ownBlock ∧ some k_ ≠ (v164 : Value).ownBlock ∧ some k_ ≠ (.slice (some ad158) t155.length co14 : Value).ownBlock) u7 x7_1) := ⟨h3_⟩
           have n4_ : Aside0 (w28.heap[gb149]? = some (.cells #[.int .i64 a0_0, .int .i64 a0_1, .slice A0_2 l0_2.length c0_2] 30 (0, 0))) := ⟨h4_⟩
           have n5_ : Aside0 (w28.heap[gb150]? = some (.cells #[.int .i64 a1_0, .int .i64 a1_1] 32 (0, 0))) := ⟨h5_⟩
           have n6_ : Aside0 (Below w.heap.size w w28) := ⟨h6_⟩
           clear HO_7
           clear HO_21
           clear BK149
           clear BK150
           clear HB
           clear h0_ h1_ h2_ h3_ h4_ h5_ h6_
           have HO162 := n0_
           have HO165 := n1_
           have HO_21 := n2_
           have HO_7 := n3_
           have BK149 := n4_
           have BK150 := n5_
           have HB := n6_
           clear n0_ n1_ n2_ n3_ n4_ n5_ n6_
           have hHeld : w28.cell? ⟨gb149, 0, none⟩ = some (.int .i64 a0_0) ∧ w28.cell? ⟨gb149, 1, none⟩ = some (.int .i64 a0_1) ∧ w28.cell? ⟨gb149, 2, none⟩ = some (.slice A0_2 l0_2.length c0_2) ∧ w28.cell? ⟨gb150, 0, none⟩ = some (.int .i64 a1_0) ∧ w28.cell? ⟨gb150, 1, none⟩ = some (.int .i64 a1_1) := hS_
           obtain ⟨Ao30, co30, eo30⟩ := Kd.R_slice HO165.out
           (first | subst eo30 | (injection eo30 with f1_ f2_ f3_; have f4_ := f1_.symm; have f5_ := f3_.symm; clear f1_ f2_ f3_; subst f4_; subst f5_))
           refine norm_ (a' := ?_) ?_ ?_
           rotate_left
           ·simp only [putAll, Act.put, List.setIfInBounds_toArray, List.set_cons_zero, List.set_cons_succ]
            rfl
           refine one_ (i := 6) (N := some 36) #[true, true, true, true, true, true, true, false, false] rfl rfl (one_of HT_.out (by kernel_rfl)) (by decide) (fun K hK => ?_)
           refine Kd.R_append_rows_step (Kd.int .i64) (w0 := w) w.heap.size (by rfl) (.tmp 33) (.tmp 35) 22 3 (.int .i64 0) 8 rfl Try.underlying22 info3 rfl (by decide) (by omega) v161 t160 y163 _ _ _ (fun k_ => some k_ ≠ (u7 : Value).ownBlock ∧ some k_ ≠ (.slice (some ad158) t155.length co14 : Value).ownBlock ∧ some k_ ≠ (.slice Ao30 y163.length co30 : Value).ownBlock) (fun _ => False) rfl rfl ?aO ?aR (fun _ _ h => h) (fun _ h => h.elim) ?aF ?aB ?aS ?aL ?_
           (case aR => repeat (first | exact (Kd.R_reads' HO165.out).2.2 | (with_reducible refine Kd.C_alloc ?_ _) | (with_reducible refine Kd.C_drewN ?_ _) | (with_reducible refine Kd.C_drew ?_)))
           (case aB => exact zd1)
           (case aF => exact (fun k_ hk => ⟨Kd.fresh' (Kd.R_lt zd5) k_ hk, Kd.fresh' (Kd.R_lt zd4) k_ hk, Kd.fresh' (Kd.R_lt zd8) k_ hk⟩))
           (case aO => exact zd23)
           (case aS => exact (below_size zd1))
           (case aL => have := LMc21.out; omega)
           intro v167 w29 ho hb hg hat
           rw [← Ny166.out] at ho
           have n0_ := Aside0.mk (Kd.R_after (ok := (fun k_ => some k_ ≠ (.slice (some ad158) t155.length co14 : Value).ownBlock ∧ some k_ ≠ (.slice Ao30 y163.length co30 : Value).ownBlock)) zd24 hg hat)
           have n1_ := Aside0.mk (Kd.R_after (ok := (fun k_ => some k_ ≠ (u7 : Value).ownBlock ∧ some k_ ≠ (.slice Ao30 y163.length co30 : Value).ownBlock)) zd19 hg hat)
           have n2_ := Aside0.mk (blk_grown (g := gb149) (o := .cells #[.int .i64 a0_0, .int .i64 a0_1, .slice A0_2 l0_2.length c0_2] 30 (0, 0)) zd2 hg (Kd.R_ne HO162.out BK149.out (by decide)))
           have n3_ := Aside0.mk (blk_grown (g := gb150) (o := .cells #[.int .i64 a1_0, .int .i64 a1_1] 32 (0, 0)) zd3 hg (Kd.R_ne HO162.out BK150.out (by decide)))
           have n4_ := Aside0.mk (Kd.R_after (ok := (fun k_ => some k_ ≠ (u7 : Value).ownBlock ∧ some k_ ≠ (.slice (some ad158) t155.length co14 : Value).ownBlock)) zd22 hg hat)
           have n5_ := Aside0.mk (hb)
           have n6_ := Aside0.mk (ho)
           clear HO_7
           clear HO_21
           clear BK149
           clear BK150
           clear HO165
           clear HB
           clear HO162
           have HO_7 := n0_
           have HO_21 := n1_
           have BK149 := n2_
           have BK150 := n3_
           have HO165 := n4_
           have HB := n5_
           have HO168 := n6_
           clear n0_ n1_ n2_ n3_ n4_ n5_ n6_
           clear ho hb hg hat
           obtain ⟨Ao31, co31, eo31⟩ := Kd.R_slice HO168.out
           (first | subst eo31 | (injection eo31 with f1_ f2_ f3_; have f4_ := f1_.symm; have f5_ := f3_.symm; clear f1_ f2_ f3_; subst f4_; subst f5_))
           refine hK.out _ _ ⟨(blk_cell BK149.out 0).trans rfl, (blk_cell BK149.out 1).trans rfl, (blk_cell BK149.out 2).trans rfl, (blk_cell BK150.out 0).trans rfl, (blk_cell BK150.out 1).trans rfl⟩ (fun hHeld => ?_)
           clear hK K
           refine norm_ (a' := ?_) ?_ ?_
           rotate_left
           ·show Act.put _ (some 36) _ = _
            simp only [Act.put, List.setIfInBounds_toArray, List.set_cons_zero, List.set_cons_succ, i64_w, i32_w]
            rfl
           refine one_ (i := 7) (N := some 37) #[true, true, true, true, true, true, true, true, false] rfl rfl (one_of HT_.out (by kernel_rfl)) (by decide) (fun K hK => ?_)
           refine goes_ Try.func43 (by kernel_rfl) rfl #[.agg #[.int .i64 a0_0, .int .i64 a0_1, .slice A0_2 l0_2.length c0_2], .agg #[.int .i64 a1_0, .int .i64 a1_1], .slice Ao31 y166.length co31] (by rfl) rfl rfl zd6 ?_
           with_reducible refine (ih k1 (by have := HK1.out; omega) a0_0 a0_1 _ _ l0_2 a1_0 a1_1 _ _ y166 t169 _ ?side1 ?side2 ?side3 ?side4 A22.out).mono ?_
           (case side1 => exact zd11)
           (case side2 => exact HC0_2.out)
           (case side3 => exact zd18)
           (case side4 => exact (Kd.R_reads' HO168.out).2.1)
           rintro e w32 ⟨v170, rfl, ho0, hb⟩
           refine ⟨_, rfl, ?_⟩
           have n0_ := Aside0.mk (Kd.R_elder' zd5 (Kd.R_base ho0) hb)
           have n1_ := Aside0.mk (Kd.R_elder' zd4 (Kd.R_base ho0) hb)
           have n2_ := Aside0.mk (Kd.R_elder' zd8 (Kd.R_base ho0) hb)
           have n3_ := Aside0.mk (Kd.R_elder' zd14 (Kd.R_base ho0) hb)
           have n4_ := Aside0.mk (Kd.R_lower (Kd.R_new' (Kd.R_new' (Kd.R_new' (Kd.R_new' ho0 (Kd.R_lt zd5)) (Kd.R_lt zd4)) (Kd.R_lt zd8)) (Kd.R_lt zd14)) (below_size zd1))
           have n5_ := Aside0.mk (blk_below (g := gb149) (o := .cells #[.int .i64 a0_0, .int .i64 a0_1, .slice A0_2 l0_2.length c0_2] 30 (0, 0)) zd2 hb)
           have n6_ := Aside0.mk (blk_below (g := gb150) (o := .cells #[.int .i64 a1_0, .int .i64 a1_1] 32 (0, 0)) zd3 hb)
           have n7_ := Aside0.mk (below_step zd1 hb)
           clear HO_7
           clear HO_21
           clear HO165
           clear HO168
           clear BK149
           clear BK150
           clear HB
           have HO_7 := n0_
           have HO_21 := n1_
           have HO165 := n2_
           have HO168 := n3_
           have HO171 := n4_
           have BK149 := n5_
           have BK150 := n6_
           have HB := n7_
           clear n0_ n1_ n2_ n3_ n4_ n5_ n6_ n7_
           (try clear hb)
           (try clear hb2)
           (try clear hk)
           (try clear hi)
           (try clear ho0)
           (try clear hna_)
           (try clear hnb_)
           refine hK.out _ _ ⟨(blk_cell BK149.out 0).trans rfl, (blk_cell BK149.out 1).trans rfl, (blk_cell BK149.out 2).trans rfl, (blk_cell BK150.out 0).trans rfl, (blk_cell BK150.out 1).trans rfl⟩ (fun hHeld => ?_)
           clear hK K
           refine norm_ (a' := ?_) ?_ ?_
           rotate_left
           ·show Act.put _ (some 37) _ = _
            simp only [Act.put, List.setIfInBounds_toArray, List.set_cons_zero, List.set_cons_succ, i64_w, i32_w]
            rfl
           refine pure_ (i := 8) (N := some 10) (v := ?_) (a' := ?_) #[true, true, true, true, true, true, true, true, true] rfl rfl (any_of HT_.out (by kernel_rfl)) (fun _ _ _ h => h) (Or.inl ⟨by rfl, ?_⟩) ?_ ?_
           rotate_left
           ·intro w'
            go_simp
            with_reducible rfl
           rotate_left
           ·simp only [Act.put, List.setIfInBounds_toArray, List.set_cons_zero, List.set_cons_succ, i64_w, i32_w]
            rfl
           refine done_ (done_of HT_.out (by kernel_rfl)) ?_
           obtain ⟨Ao33, co33, eo33⟩ := Kd.R_slice HO171.out
           subst eo33
           obtain ⟨Ao34, co34, eo34⟩ := Kd.R_slice HO_7.out
           subst eo34
           try go_wp2
           go_roundg k1
           case measure => have := HK1.out; omega
           case rel => exact ⟨(t169), (wrap64 (x23_1 + 1)), zd27, H', ⟨by have := HK1.out; omega⟩, ⟨by (with_reducible repeat (first | apply Kd.R_alloc | apply Kd.R_drewN | apply Kd.R_drew)); exact Kd.R_mono HO171.out (fun _ hk => hk.1.1.2)⟩, ⟨by (with_reducible repeat (first | apply Kd.R_alloc | apply Kd.R_drewN | apply Kd.R_drew)); exact Kd.R_mono HO_21.out (fun _ hk => hk.2)⟩, ⟨zd2⟩, ⟨zd3⟩, ⟨zd1⟩⟩
          ·rw [if_neg c23] at H
           have c23b0 : decide ((x7_1.length : Int) < (t169.length : Int)) = false := decide_eq_false c23
           have c23b1 : decide (x7_1.length < t169.length) = false := decide_eq_false (fun h => c23 (Int.ofNat_lt.mpr h))
           clear c23
           have H' := Aside0.mk H
           clear H
           have p158 : 0 ≤ (x23_1 : Int) := of_decide_eq_true zd13
           have q158 : x23_1 < (t155.length : Int) := of_decide_eq_true zd13
           obtain ⟨ad158, e158, hx158_0⟩ := Kd.at_int (Kd.R_reads' HO_21.out).2.2 x23_1 p158 q158
           cases e158
           replace p158 := eq_true p158
           replace q158 := eq_true q158
           try go_wp2_with (first | ((with_reducible refine gate_callee (f := 67) rfl ?_); refine goesL_ (some 29) rfl rfl Try.func67 (by kernel_rfl) rfl #[.slice (some ad154) l2.length c2, .int .i64 (rd t155 x23_1)] rfl zd6 ?_; (with_reducible refine (spec_l1Has.calls k1 _ _ l2 (rd t155 x23_1) false _ ?side1 ?side2 A18.out).mono ?_); (case side1 => exact zd7); (case side2 => exact HC2.out); rintro e w' ⟨rfl, ⟨nd, rfl⟩⟩; refine ⟨_, rfl, ?_⟩))
           (try (rw [drewN_self wr]; generalize hq_ : World.drewN wr _ = wr; have n0_ : Aside0 (Kd.R (Kd.int .i64) 3 wr w.heap.size (fun k_ => some k_ ≠ (u7 : Value).ownBlock) (.slice (some ad158) t155.length co14) t155) := ⟨by rw [← hq_]; exact zd4⟩; have n1_ : Aside0 (Kd.R (Kd.int .i64) 3 wr w.heap.size (fun k_ => some k_ ≠ (.slice (some ad158) t155.length co14 : Value).ownBlock) u7 x7_1) := ⟨by rw [← hq_]; exact zd5⟩; have n2_ : Aside0 (wr.heap[gb149]? = some (.cells #[.int .i64 a0_0, .int .i64 a0_1, .slice A0_2 l0_2.length c0_2] 30 (0, 0))) := ⟨by rw [← hq_]; exact zd2⟩; have n3_ : Aside0 (wr.heap[gb150]? = some (.cells #[.int .i64 a1_0, .int .i64 a1_1] 32 (0, 0))) := ⟨by rw [← hq_]; exact zd3⟩; have n4_ : Aside0 (Below w.heap.size w wr) := ⟨by rw [← hq_]; exact zd1⟩; clear HO_21 HO_7 BK149 BK150 HB hq_; have HO_21 := n0_; have HO_7 := n1_; have BK149 := n2_; have BK150 := n3_; have HB := n4_; clear n0_ n1_ n2_ n3_ n4_))
           have n0_ := Aside0.mk (Kd.R_drew HO_7.out)
           have n1_ := Aside0.mk (Kd.R_drew HO_21.out)
           have n2_ := Aside0.mk (blk_drew BK149.out)
           have n3_ := Aside0.mk (blk_drew BK150.out)
           have n4_ := Aside0.mk (below_drew1 HB.out)
           clear HO_7
           clear HO_21
           clear BK149
           clear BK150
           clear HB
           have HO_7 := n0_
           have HO_21 := n1_
           have BK149 := n2_
           have BK150 := n3_
           have HB := n4_
           clear n0_ n1_ n2_ n3_ n4_
           refine start_ (n := 9) (S := fun w' => w'.cell? ⟨gb149, 0, none⟩ = some (.int .i64 a0_0) ∧ w'.cell? ⟨gb149, 1, none⟩ = some (.int .i64 a0_1) ∧ w'.cell? ⟨gb149, 2, none⟩ = some (.slice A0_2 l0_2.length c0_2) ∧ w'.cell? ⟨gb150, 0, none⟩ = some (.int .i64 a1_0) ∧ w'.cell? ⟨gb150, 1, none⟩ = some (.int .i64 a1_1)) (ds := []) #[false, false, false, false, false, false, false, false, false] (by kernel_rfl) rfl rfl ⟨(blk_cell BK149.out 0).trans rfl, (blk_cell BK149.out 1).trans rfl, (blk_cell BK149.out 2).trans rfl, (blk_cell BK150.out 0).trans rfl, (blk_cell BK150.out 1).trans rfl⟩ (fun hHeld => ?_); refine with_tabW spec_toLongest.tab6 spec_toLongest.bits6 (fun HT_ HW_ => ?_)
           generalize wr.drew = w35 at HO_7 HO_21 BK149 BK150 HB hHeld ⊢
           refine pure_ (i := 2) (N := some 32) (v := ?_) (a' := ?_) #[false, false, true, false, false, false, false, false, false] rfl rfl (any_of HT_.out (by kernel_rfl)) (fun _ _ _ h => h) (Or.inl ⟨by rfl, ?_⟩) ?_ ?_
           rotate_left
           ·intro w'
            go_simp
            with_reducible rfl
           rotate_left
           ·simp only [Act.put, List.setIfInBounds_toArray, List.set_cons_zero, List.set_cons_succ, i64_w, i32_w]
            rfl
           refine pure_ (i := 4) (N := some 34) (v := ?_) (a' := ?_) #[false, false, true, false, true, false, false, false, false] rfl rfl (any_of HT_.out (by kernel_rfl)) (fun _ _ _ h => h) (Or.inl ⟨by rfl, ?_⟩) ?_ ?_
           rotate_left
           ·intro w'
            go_simp
            with_reducible rfl
           rotate_left
           ·simp only [Act.put, List.setIfInBounds_toArray, List.set_cons_zero, List.set_cons_succ, i64_w, i32_w]
            rfl
           refine take_ (i := 0) (N := some 30) (v := ?_) (a' := ?_) #[true, false, true, false, true, false, false, false, false] rfl rfl (take_ofW HT_.out HW_.out (by kernel_rfl)) (fun _ _ _ h => h) (Or.inl ⟨by rfl, ?_⟩) hHeld ?_ ?_
           rotate_left
           ·rintro w' ⟨s0, s1, s2, s3, s4⟩
            go_simp
            with_reducible rfl
           rotate_left
           ·simp only [Act.put, List.setIfInBounds_toArray, List.set_cons_zero, List.set_cons_succ, i64_w, i32_w]
            rfl
           refine take_ (i := 1) (N := some 31) (v := ?_) (a' := ?_) #[true, true, true, false, true, false, false, false, false] rfl rfl (take_ofW HT_.out HW_.out (by kernel_rfl)) (fun _ _ _ h => h) (Or.inl ⟨by rfl, ?_⟩) hHeld ?_ ?_
           rotate_left
           ·rintro w' ⟨s0, s1, s2, s3, s4⟩
            go_simp
            with_reducible rfl
           rotate_left
           ·simp only [Act.put, List.setIfInBounds_toArray, List.set_cons_zero, List.set_cons_succ, i64_w, i32_w]
            rfl
           refine join_ (σ := Value × Value) 3 #[true, true, true, true, true, true, false, false, false] (fun s_ => [(33, s_.1), (35, s_.2)]) (fun s_ w' => (w'.cell? ⟨gb149, 0, none⟩ = some (.int .i64 a0_0) ∧ w'.cell? ⟨gb149, 1, none⟩ = some (.int .i64 a0_1) ∧ w'.cell? ⟨gb149, 2, none⟩ = some (.slice A0_2 l0_2.length c0_2) ∧ w'.cell? ⟨gb150, 0, none⟩ = some (.int .i64 a1_0) ∧ w'.cell? ⟨gb150, 1, none⟩ = some (.int .i64 a1_1)) ∧ (Kd.R (Kd.int .i64) 3 w' w.heap.size (fun k_ => some k_ ≠ (s_.2 : Value).ownBlock ∧ some k_ ≠ (.slice (some ad158) t155.length co14 : Value).ownBlock ∧ some k_ ≠ (u7 : Value).ownBlock) s_.1 t160) ∧ (Kd.R (Kd.int .i64) 3 w' w.heap.size (fun k_ => some k_ ≠ (s_.1 : Value).ownBlock ∧ some k_ ≠ (.slice (some ad158) t155.length co14 : Value).ownBlock ∧ some k_ ≠ (u7 : Value).ownBlock) s_.2 y163) ∧ (Kd.R (Kd.int .i64) 3 w' w.heap.size (fun k_ => some k_ ≠ (s_.1 : Value).ownBlock ∧ some k_ ≠ (s_.2 : Value).ownBlock ∧ some k_ ≠ (u7 : Value).ownBlock) (.slice (some ad158) t155.length co14) t155) ∧ (Kd.R (Kd.int .i64) 3 w' w.heap.size (fun k_ => some k_ ≠ (s_.1 : Value).ownBlock ∧ some k_ ≠ (s_.2 : Value).ownBlock ∧ some k_ ≠ (.slice (some ad158) t155.length co14 : Value).ownBlock) u7 x7_1) ∧ (w'.heap[gb149]? = some (.cells #[.int .i64 a0_0, .int .i64 a0_1, .slice A0_2 l0_2.length c0_2] 30 (0, 0))) ∧ (w'.heap[gb150]? = some (.cells #[.int .i64 a1_0, .int .i64 a1_1] 32 (0, 0))) ∧ (Below w.heap.size w w')) ?_ ?_
           rotate_left
           ·intro hCont
            refine two_ (i := 3) (j := 5) (Ni := some 33) (Nj := some 35) #[true, true, true, true, true, false, false, false, false] #[true, true, true, false, true, true, false, false, false] rfl rfl rfl rfl (two_of HT_.out (by kernel_rfl)) (by decide) (by decide) (fun K hK => ?_) (fun K hK => ?_)
            ·skip
             refine goes_ Try.func65 (by kernel_rfl) rfl #[.slice (some ad154) l2.length c2] (by rfl) rfl rfl zd6 ?_
             with_reducible refine (spec_l1Own.calls _ _ l2 t160 _ ?side1 ?side2 A20.out).mono ?_
             (case side1 => exact zd7)
             (case side2 => exact HC2.out)
             rintro e w36 ⟨v161, rfl, ho0, hb⟩
             refine ⟨_, rfl, ?_⟩
             have n0_ := Aside0.mk (Kd.R_elder' zd5 (Kd.R_base ho0) hb)
             have n1_ := Aside0.mk (Kd.R_elder' zd4 (Kd.R_base ho0) hb)
             have n2_ := Aside0.mk (Kd.R_lower (Kd.R_new' (Kd.R_new' ho0 (Kd.R_lt zd5)) (Kd.R_lt zd4)) (below_size zd1))
             have n3_ := Aside0.mk (blk_below (g := gb149) (o := .cells #[.int .i64 a0_0, .int .i64 a0_1, .slice A0_2 l0_2.length c0_2] 30 (0, 0)) zd2 hb)
             have n4_ := Aside0.mk (blk_below (g := gb150) (o := .cells #[.int .i64 a1_0, .int .i64 a1_1] 32 (0, 0)) zd3 hb)
             have n5_ := Aside0.mk (below_step zd1 hb)
             clear HO_7
             clear HO_21
             clear BK149
             clear BK150
             clear HB
             have HO_7 := n0_
             have HO_21 := n1_
             have HO162 := n2_
             have BK149 := n3_
             have BK150 := n4_
             have HB := n5_
             clear n0_ n1_ n2_ n3_ n4_ n5_
             (try clear hb)
             (try clear hb2)
             (try clear hk)
             (try clear hi)
             (try clear ho0)
             (try clear hna_)
             (try clear hnb_)
             refine hK.out _ _ ⟨(blk_cell BK149.out 0).trans rfl, (blk_cell BK149.out 1).trans rfl, (blk_cell BK149.out 2).trans rfl, (blk_cell BK150.out 0).trans rfl, (blk_cell BK150.out 1).trans rfl⟩ (fun hHeld => ?_)
             clear hK K
             refine norm_ (a' := ?_) ?_ ?_
             rotate_left
             ·show Act.put _ (some 33) _ = _
              simp only [Act.put, List.setIfInBounds_toArray, List.set_cons_zero, List.set_cons_succ, i64_w, i32_w]
              rfl
             refine one_ (i := 5) (N := some 35) #[true, true, true, true, true, true, false, false, false] rfl rfl (one_of HT_.out (by kernel_rfl)) (by decide) (fun K hK => ?_)
             refine Kd.R_lit_step (Kd.int .i64) _ 3 ?hg (N := 35) ?hd (xs := ([rd t155 x23_1] : List Int)) (inner := [.int .i64 (rd t155 x23_1)]) (ok := fun _ => True) (okp := fun _ => True) ?hr ?hp (fun _ hk => hk) trivial (Below.refl _ _) (Nat.le_refl _) (by simp) ?_; (case hd => rfl); (case hg => rfl); (case hr => first | (go_simp; done) | (go_simp; rfl)); (case hp => exact (Reps.one (show Kd.M (Kd.int .i64) _ _ _ (rd t155 x23_1) [.int .i64 (rd t155 x23_1)] from rfl) (Reps.none _ _)))
             intro v164 w37 ho38 hb hg_ hnew_
             clear hg_ hnew_
             (first | rw [← Ny163.out] at ho38 | (simp only [Int.reduceToNat] at ho38; rw [← Ny163.out] at ho38))
             have n0_ := Aside0.mk (Kd.R_elder' zd5 (Kd.R_base ho38) hb)
             have n1_ := Aside0.mk (Kd.R_elder' zd4 (Kd.R_base ho38) hb)
             have n2_ := Aside0.mk (Kd.R_elder' zd15 (Kd.R_base ho38) hb)
             have n3_ := Aside0.mk (Kd.R_lower (Kd.R_new' (Kd.R_new' (Kd.R_new' ho38 (Kd.R_lt zd5)) (Kd.R_lt zd4)) (Kd.R_lt zd15)) (below_size zd1))
             have n4_ := Aside0.mk (blk_below (g := gb149) (o := .cells #[.int .i64 a0_0, .int .i64 a0_1, .slice A0_2 l0_2.length c0_2] 30 (0, 0)) zd2 hb)
             have n5_ := Aside0.mk (blk_below (g := gb150) (o := .cells #[.int .i64 a1_0, .int .i64 a1_1] 32 (0, 0)) zd3 hb)
             have n6_ := Aside0.mk (below_step zd1 hb)
             clear HO_7
             clear HO_21
             clear HO162
             clear BK149
             clear BK150
             clear HB
             have HO_7 := n0_
             have HO_21 := n1_
             have HO162 := n2_
             have HO165 := n3_
             have BK149 := n4_
             have BK150 := n5_
             have HB := n6_
             clear n0_ n1_ n2_ n3_ n4_ n5_ n6_
             clear hb ho38
             refine hK.out _ _ ⟨(blk_cell BK149.out 0).trans rfl, (blk_cell BK149.out 1).trans rfl, (blk_cell BK149.out 2).trans rfl, (blk_cell BK150.out 0).trans rfl, (blk_cell BK150.out 1).trans rfl⟩ (fun hHeld => ?_)
             clear hK K
             refine norm_ (a' := ?_) ?_ ?_
             rotate_left
             ·show Act.put _ (some 35) _ = _
              simp only [Act.put, List.setIfInBounds_toArray, List.set_cons_zero, List.set_cons_succ, i64_w, i32_w]
              rfl
             exact norm_ zd16 (hCont (v161, v164) _ ⟨hHeld, zd10, zd9, zd21, zd26, zd2, zd3, zd1⟩)
            ·skip
             refine Kd.R_lit_step (Kd.int .i64) _ 3 ?hg (N := 35) ?hd (xs := ([rd t155 x23_1] : List Int)) (inner := [.int .i64 (rd t155 x23_1)]) (ok := fun _ => True) (okp := fun _ => True) ?hr ?hp (fun _ hk => hk) trivial (Below.refl _ _) (Nat.le_refl _) (by simp) ?_; (case hd => rfl); (case hg => rfl); (case hr => first | (go_simp; done) | (go_simp; rfl)); (case hp => exact (Reps.one (show Kd.M (Kd.int .i64) _ _ _ (rd t155 x23_1) [.int .i64 (rd t155 x23_1)] from rfl) (Reps.none _ _)))
             intro v164 w36 ho37 hb hg_ hnew_
             clear hg_ hnew_
             (first | rw [← Ny163.out] at ho37 | (simp only [Int.reduceToNat] at ho37; rw [← Ny163.out] at ho37))
             have n0_ := Aside0.mk (Kd.R_elder' zd5 (Kd.R_base ho37) hb)
             have n1_ := Aside0.mk (Kd.R_elder' zd4 (Kd.R_base ho37) hb)
             have n2_ := Aside0.mk (Kd.R_lower (Kd.R_new' (Kd.R_new' ho37 (Kd.R_lt zd5)) (Kd.R_lt zd4)) (below_size zd1))
             have n3_ := Aside0.mk (blk_below (g := gb149) (o := .cells #[.int .i64 a0_0, .int .i64 a0_1, .slice A0_2 l0_2.length c0_2] 30 (0, 0)) zd2 hb)
             have n4_ := Aside0.mk (blk_below (g := gb150) (o := .cells #[.int .i64 a1_0, .int .i64 a1_1] 32 (0, 0)) zd3 hb)
             have n5_ := Aside0.mk (below_step zd1 hb)
             clear HO_7
             clear HO_21
             clear BK149
             clear BK150
             clear HB
             have HO_7 := n0_
             have HO_21 := n1_
             have HO165 := n2_
             have BK149 := n3_
             have BK150 := n4_
             have HB := n5_
             clear n0_ n1_ n2_ n3_ n4_ n5_
             clear hb ho37
             refine hK.out _ _ ⟨(blk_cell BK149.out 0).trans rfl, (blk_cell BK149.out 1).trans rfl, (blk_cell BK149.out 2).trans rfl, (blk_cell BK150.out 0).trans rfl, (blk_cell BK150.out 1).trans rfl⟩ (fun hHeld => ?_)
             clear hK K
             refine norm_ (a' := ?_) ?_ ?_
             rotate_left
             ·show Act.put _ (some 35) _ = _
              simp only [Act.put, List.setIfInBounds_toArray, List.set_cons_zero, List.set_cons_succ, i64_w, i32_w]
              rfl
             refine one_ (i := 3) (N := some 33) #[true, true, true, true, true, true, false, false, false] rfl rfl (one_of HT_.out (by kernel_rfl)) (by decide) (fun K hK => ?_)
             refine goes_ Try.func65 (by kernel_rfl) rfl #[.slice (some ad154) l2.length c2] (by rfl) rfl rfl zd6 ?_
             with_reducible refine (spec_l1Own.calls _ _ l2 t160 _ ?side1 ?side2 A20.out).mono ?_
             (case side1 => exact zd7)
             (case side2 => exact HC2.out)
             rintro e w38 ⟨v161, rfl, ho0, hb⟩
             refine ⟨_, rfl, ?_⟩
             have n0_ := Aside0.mk (Kd.R_elder' zd5 (Kd.R_base ho0) hb)
             have n1_ := Aside0.mk (Kd.R_elder' zd4 (Kd.R_base ho0) hb)
             have n2_ := Aside0.mk (Kd.R_elder' zd8 (Kd.R_base ho0) hb)
             have n3_ := Aside0.mk (Kd.R_lower (Kd.R_new' (Kd.R_new' (Kd.R_new' ho0 (Kd.R_lt zd5)) (Kd.R_lt zd4)) (Kd.R_lt zd8)) (below_size zd1))
             have n4_ := Aside0.mk (blk_below (g := gb149) (o := .cells #[.int .i64 a0_0, .int .i64 a0_1, .slice A0_2 l0_2.length c0_2] 30 (0, 0)) zd2 hb)
             have n5_ := Aside0.mk (blk_below (g := gb150) (o := .cells #[.int .i64 a1_0, .int .i64 a1_1] 32 (0, 0)) zd3 hb)
             have n6_ := Aside0.mk (below_step zd1 hb)
             clear HO_7
             clear HO_21
             clear HO165
             clear BK149
             clear BK150
             clear HB
             have HO_7 := n0_
             have HO_21 := n1_
             have HO165 := n2_
             have HO162 := n3_
             have BK149 := n4_
             have BK150 := n5_
             have HB := n6_
             clear n0_ n1_ n2_ n3_ n4_ n5_ n6_
             (try clear hb)
             (try clear hb2)
             (try clear hk)
             (try clear hi)
             (try clear ho0)
             (try clear hna_)
             (try clear hnb_)
             refine hK.out _ _ ⟨(blk_cell BK149.out 0).trans rfl, (blk_cell BK149.out 1).trans rfl, (blk_cell BK149.out 2).trans rfl, (blk_cell BK150.out 0).trans rfl, (blk_cell BK150.out 1).trans rfl⟩ (fun hHeld => ?_)
             clear hK K
             refine norm_ (a' := ?_) ?_ ?_
             rotate_left
             ·show Act.put _ (some 33) _ = _
              simp only [Act.put, List.setIfInBounds_toArray, List.set_cons_zero, List.set_cons_succ, i64_w, i32_w]
              rfl
             exact norm_ zd16 (hCont (v161, v164) _ ⟨hHeld, zd10, zd9, zd20, zd25, zd2, zd3, zd1⟩)
           rintro ⟨v161, v164⟩ w39 ⟨hS_, h0_, h1_, h2_, h3_, h4_, h5_, h6_⟩
           have n0_ : Aside0 (Kd.R (Kd.int .i64) 3 w39 w.heap.size (fun k_ => some k_ ≠ (v164 : Value).ownBlock ∧ some k_ ≠ (.slice (some ad158) t155.length co14 : Value).ownBlock ∧ some k_ ≠ (u7 : Value).ownBlock) v161 t160) := ⟨h0_⟩
           have n1_ : Aside0 (Kd.R (Kd.int .i64) 3 w39 w.heap.size (fun k_ => some k_ ≠ (v161 : Value).ownBlock ∧ some k_ ≠ (.slice (some ad158) t155.length co14 : Value).ownBlock ∧ some k_ ≠ (u7 : Value).ownBlock) v164 y163) := ⟨h1_⟩
           have n2_ : Aside0 (Kd.R (Kd.int .i64) 3 w39 w.heap.size (fun k_ => some k_ ≠ (v161 : Value).ownBlock ∧ some k_ ≠ (v164 : Value).ownBlock ∧ some k_ ≠ (u7 : Value).ownBlock) (.slice (some ad158) t155.length co14) t155) := ⟨h2_⟩
           have n3_ : Aside0 (Kd.R (Kd.int .i64) 3 w39 w.heap.size (fun k_ => some k_ ≠ (v161 : Value).ownBlock ∧ some k_ ≠ (v164 : Value).ownBlock ∧ some k_ ≠ (.slice (some ad158) t155.length co14 : Value).ownBlock) u7 x7_1) := ⟨h3_⟩
           have n4_ : Aside0 (w39.heap[gb149]? = some (.cells #[.int .i64 a0_0, .int .i64 a0_1, .slice A0_2 l0_2.length c0_2] 30 (0, 0))) := ⟨h4_⟩
           have n5_ : Aside0 (w39.heap[gb150]? = some (.cells #[.int .i64 a1_0, .int .i64 a1_1] 32 (0, 0))) := ⟨h5_⟩
           have n6_ : Aside0 (Below w.heap.size w w39) := ⟨h6_⟩
           clear HO_7
           clear HO_21
           clear BK149
           clear BK150
           clear HB
           clear h0_ h1_ h2_ h3_ h4_ h5_ h6_
           have HO162 := n0_
           have HO165 := n1_
           have HO_21 := n2_
           have HO_7 := n3_
           have BK149 := n4_
           have BK150 := n5_
           have HB := n6_
           clear n0_ n1_ n2_ n3_ n4_ n5_ n6_
           have hHeld : w39.cell? ⟨gb149, 0, none⟩ = some (.int .i64 a0_0) ∧ w39.cell? ⟨gb149, 1, none⟩ = some (.int .i64 a0_1) ∧ w39.cell? ⟨gb149, 2, none⟩ = some (.slice A0_2 l0_2.length c0_2) ∧ w39.cell? ⟨gb150, 0, none⟩ = some (.int .i64 a1_0) ∧ w39.cell? ⟨gb150, 1, none⟩ = some (.int .i64 a1_1) := hS_
           obtain ⟨Ao41, co41, eo41⟩ := Kd.R_slice HO165.out
           (first | subst eo41 | (injection eo41 with f1_ f2_ f3_; have f4_ := f1_.symm; have f5_ := f3_.symm; clear f1_ f2_ f3_; subst f4_; subst f5_))
           refine norm_ (a' := ?_) ?_ ?_
           rotate_left
           ·simp only [putAll, Act.put, List.setIfInBounds_toArray, List.set_cons_zero, List.set_cons_succ]
            rfl
           refine one_ (i := 6) (N := some 36) #[true, true, true, true, true, true, true, false, false] rfl rfl (one_of HT_.out (by kernel_rfl)) (by decide) (fun K hK => ?_)
           refine Kd.R_append_rows_step (Kd.int .i64) (w0 := w) w.heap.size (by rfl) (.tmp 33) (.tmp 35) 22 3 (.int .i64 0) 8 rfl Try.underlying22 info3 rfl (by decide) (by omega) v161 t160 y163 _ _ _ (fun k_ => some k_ ≠ (u7 : Value).ownBlock ∧ some k_ ≠ (.slice (some ad158) t155.length co14 : Value).ownBlock ∧ some k_ ≠ (.slice Ao41 y163.length co41 : Value).ownBlock) (fun _ => False) rfl rfl ?aO ?aR (fun _ _ h => h) (fun _ h => h.elim) ?aF ?aB ?aS ?aL ?_
           (case aR => repeat (first | exact (Kd.R_reads' HO165.out).2.2 | (with_reducible refine Kd.C_alloc ?_ _) | (with_reducible refine Kd.C_drewN ?_ _) | (with_reducible refine Kd.C_drew ?_)))
           (case aB => exact zd1)
           (case aF => exact (fun k_ hk => ⟨Kd.fresh' (Kd.R_lt zd5) k_ hk, Kd.fresh' (Kd.R_lt zd4) k_ hk, Kd.fresh' (Kd.R_lt zd8) k_ hk⟩))
           (case aO => exact zd23)
           (case aS => exact (below_size zd1))
           (case aL => have := LMc21.out; omega)
           intro v167 w40 ho hb hg hat
           rw [← Ny166.out] at ho
           have n0_ := Aside0.mk (Kd.R_after (ok := (fun k_ => some k_ ≠ (.slice (some ad158) t155.length co14 : Value).ownBlock ∧ some k_ ≠ (.slice Ao41 y163.length co41 : Value).ownBlock)) zd24 hg hat)
           have n1_ := Aside0.mk (Kd.R_after (ok := (fun k_ => some k_ ≠ (u7 : Value).ownBlock ∧ some k_ ≠ (.slice Ao41 y163.length co41 : Value).ownBlock)) zd19 hg hat)
           have n2_ := Aside0.mk (blk_grown (g := gb149) (o := .cells #[.int .i64 a0_0, .int .i64 a0_1, .slice A0_2 l0_2.length c0_2] 30 (0, 0)) zd2 hg (Kd.R_ne HO162.out BK149.out (by decide)))
           have n3_ := Aside0.mk (blk_grown (g := gb150) (o := .cells #[.int .i64 a1_0, .int .i64 a1_1] 32 (0, 0)) zd3 hg (Kd.R_ne HO162.out BK150.out (by decide)))
           have n4_ := Aside0.mk (Kd.R_after (ok := (fun k_ => some k_ ≠ (u7 : Value).ownBlock ∧ some k_ ≠ (.slice (some ad158) t155.length co14 : Value).ownBlock)) zd22 hg hat)
           have n5_ := Aside0.mk (hb)
           have n6_ := Aside0.mk (ho)
           clear HO_7
           clear HO_21
           clear BK149
           clear BK150
           clear HO165
           clear HB
           clear HO162
           have HO_7 := n0_
           have HO_21 := n1_
           have BK149 := n2_
           have BK150 := n3_
           have HO165 := n4_
           have HB := n5_
           have HO168 := n6_
           clear n0_ n1_ n2_ n3_ n4_ n5_ n6_
           clear ho hb hg hat
           obtain ⟨Ao42, co42, eo42⟩ := Kd.R_slice HO168.out
           (first | subst eo42 | (injection eo42 with f1_ f2_ f3_; have f4_ := f1_.symm; have f5_ := f3_.symm; clear f1_ f2_ f3_; subst f4_; subst f5_))
           refine hK.out _ _ ⟨(blk_cell BK149.out 0).trans rfl, (blk_cell BK149.out 1).trans rfl, (blk_cell BK149.out 2).trans rfl, (blk_cell BK150.out 0).trans rfl, (blk_cell BK150.out 1).trans rfl⟩ (fun hHeld => ?_)
           clear hK K
           refine norm_ (a' := ?_) ?_ ?_
           rotate_left
           ·show Act.put _ (some 36) _ = _
            simp only [Act.put, List.setIfInBounds_toArray, List.set_cons_zero, List.set_cons_succ, i64_w, i32_w]
            rfl
           refine one_ (i := 7) (N := some 37) #[true, true, true, true, true, true, true, true, false] rfl rfl (one_of HT_.out (by kernel_rfl)) (by decide) (fun K hK => ?_)
           refine goes_ Try.func43 (by kernel_rfl) rfl #[.agg #[.int .i64 a0_0, .int .i64 a0_1, .slice A0_2 l0_2.length c0_2], .agg #[.int .i64 a1_0, .int .i64 a1_1], .slice Ao42 y166.length co42] (by rfl) rfl rfl zd6 ?_
           with_reducible refine (ih k1 (by have := HK1.out; omega) a0_0 a0_1 _ _ l0_2 a1_0 a1_1 _ _ y166 t169 _ ?side1 ?side2 ?side3 ?side4 A22.out).mono ?_
           (case side1 => exact zd11)
           (case side2 => exact HC0_2.out)
           (case side3 => exact zd18)
           (case side4 => exact (Kd.R_reads' HO168.out).2.1)
           rintro e w43 ⟨v170, rfl, ho0, hb⟩
           refine ⟨_, rfl, ?_⟩
           have n0_ := Aside0.mk (Kd.R_elder' zd5 (Kd.R_base ho0) hb)
           have n1_ := Aside0.mk (Kd.R_elder' zd4 (Kd.R_base ho0) hb)
           have n2_ := Aside0.mk (Kd.R_elder' zd8 (Kd.R_base ho0) hb)
           have n3_ := Aside0.mk (Kd.R_elder' zd14 (Kd.R_base ho0) hb)
           have n4_ := Aside0.mk (Kd.R_lower (Kd.R_new' (Kd.R_new' (Kd.R_new' (Kd.R_new' ho0 (Kd.R_lt zd5)) (Kd.R_lt zd4)) (Kd.R_lt zd8)) (Kd.R_lt zd14)) (below_size zd1))
           have n5_ := Aside0.mk (blk_below (g := gb149) (o := .cells #[.int .i64 a0_0, .int .i64 a0_1, .slice A0_2 l0_2.length c0_2] 30 (0, 0)) zd2 hb)
           have n6_ := Aside0.mk (blk_below (g := gb150) (o := .cells #[.int .i64 a1_0, .int .i64 a1_1] 32 (0, 0)) zd3 hb)
           have n7_ := Aside0.mk (below_step zd1 hb)
           clear HO_7
           clear HO_21
           clear HO165
           clear HO168
           clear BK149
           clear BK150
           clear HB
           have HO_7 := n0_
           have HO_21 := n1_
           have HO165 := n2_
           have HO168 := n3_
           have HO171 := n4_
           have BK149 := n5_
           have BK150 := n6_
           have HB := n7_
           clear n0_ n1_ n2_ n3_ n4_ n5_ n6_ n7_
           (try clear hb)
           (try clear hb2)
           (try clear hk)
           (try clear hi)
           (try clear ho0)
           (try clear hna_)
           (try clear hnb_)
           refine hK.out _ _ ⟨(blk_cell BK149.out 0).trans rfl, (blk_cell BK149.out 1).trans rfl, (blk_cell BK149.out 2).trans rfl, (blk_cell BK150.out 0).trans rfl, (blk_cell BK150.out 1).trans rfl⟩ (fun hHeld => ?_)
           clear hK K
           refine norm_ (a' := ?_) ?_ ?_
           rotate_left
           ·show Act.put _ (some 37) _ = _
            simp only [Act.put, List.setIfInBounds_toArray, List.set_cons_zero, List.set_cons_succ, i64_w, i32_w]
            rfl
           refine pure_ (i := 8) (N := some 10) (v := ?_) (a' := ?_) #[true, true, true, true, true, true, true, true, true] rfl rfl (any_of HT_.out (by kernel_rfl)) (fun _ _ _ h => h) (Or.inl ⟨by rfl, ?_⟩) ?_ ?_
           rotate_left
           ·intro w'
            go_simp
            with_reducible rfl
           rotate_left
           ·simp only [Act.put, List.setIfInBounds_toArray, List.set_cons_zero, List.set_cons_succ, i64_w, i32_w]
            rfl
           refine done_ (done_of HT_.out (by kernel_rfl)) ?_
           obtain ⟨Ao44, co44, eo44⟩ := Kd.R_slice HO171.out
           subst eo44
           obtain ⟨Ao45, co45, eo45⟩ := Kd.R_slice HO_7.out
           subst eo45
           try go_wp2
           go_roundg k1
           case measure => have := HK1.out; omega
           case rel => exact ⟨(x7_1), (wrap64 (x23_1 + 1)), zd27, H', ⟨by have := HK1.out; omega⟩, ⟨by (with_reducible repeat (first | apply Kd.R_alloc | apply Kd.R_drewN | apply Kd.R_drew)); exact Kd.R_mono HO_7.out (fun _ hk => hk.1.1.1)⟩, ⟨by (with_reducible repeat (first | apply Kd.R_alloc | apply Kd.R_drewN | apply Kd.R_drew)); exact Kd.R_mono HO_21.out (fun _ hk => hk.1.1.1)⟩, ⟨zd2⟩, ⟨zd3⟩, ⟨zd1⟩⟩
         ·rw [if_neg c21] at H
          exact absurd H (by simp)
       ·rw [if_neg c17] at H
        exact absurd H (by simp)
      ·rw [if_neg c16] at H
       exact absurd H (by simp)
     ·rw [if_neg c15] at H
      have c15b0 : decide (x23_1 < (t155.length : Int)) = false := decide_eq_false c15
      clear c15
      obtain rfl := Option.some.inj H
      go_wp2
      go_ret
      exact ⟨_, by first | rfl | (simp [errW_none, errW_some] <;> rfl) | (simp only [← hji5]; first | rfl | (simp [errW_none, errW_some] <;> rfl)) | (simp [*, errW_none, errW_some] <;> rfl), by (with_reducible repeat (first | apply Kd.R_alloc | apply Kd.R_drewN | apply Kd.R_drew)); exact Kd.R_mono HO_7.out (fun _ hk => trivial), zd1⟩
  ·rw [if_neg c7] at H
   exact absurd H (by simp)
 ·rw [if_neg c6] at H
  exact absurd H (by simp)

end Go.Proofs.Ytmfbhhicioepjaa.Q

/- Written by a program of this session: functions of the translation as plain Lean functions, each with a proof that the call does what the plain function says; the conditions stand in each theorem. -/
import Derived.Test.YtfjomkjngolboaaQ0
import Derived.Test.YtfjomkjngolboaaQ2
import Derived.Test.YtfjomkjngolboaaQ4
import Derived.Test.YtfjomkjngolboaaQ7
namespace Go.Proofs.Ytfjomkjngolboaa.Q
open Go.RowKit Go.Proofs.YtfjomkjngolboaaW.PrintWords Go.Proofs.YtfjomkjngolboaaW.PrintLast Go.Proofs.YtfjomkjngolboaaW.PrintMore
attribute [local go_sem] max2_int min2_int max_two min_two max_three min_three max_four min_four   -- for this text's walks alone
set_option linter.unusedVariables false
set_option linter.unusedSimpArgs false

theorem zi1 {p : Prop} (h : p := by repeat (first | (with_reducible first | exact HB.out | apply below_alloc | apply pw_below_drewN | apply below_drew1 | refine below_set ?_ GE233.out | refine below_set ?_ GE234.out) | exact HB.out)) : p := h
theorem zi2 {p : Prop} (h : p := by repeat (first | (with_reducible first | exact HB.out | apply below_alloc | apply pw_below_drewN | apply below_drew1) | exact HB.out)) : p := h
theorem zi3 {p : Prop} (h : p := by repeat (first | (with_reducible first | exact HB.out | apply below_alloc | apply pw_below_drewN | apply below_drew1 | refine below_set ?_ GE152.out) | exact HB.out)) : p := h
theorem zi4 {p : Prop} (h : p := by first | exact BK233.out | ((with_reducible repeat (first | refine blk_drewN ?_ _ | refine blk_drew ?_ | refine blk_alloc ?_ _)); exact BK233.out)) : p := h
theorem zi5 {p : Prop} (h : p := by repeat (first | (with_reducible first | exact HB.out | apply below_alloc | apply pw_below_drewN | apply below_drew1 | refine below_set ?_ GE157.out | refine below_set ?_ GE158.out) | exact HB.out)) : p := h
theorem zi6 {p : Prop} (h : p := by first | exact BK157.out | ((with_reducible repeat (first | refine blk_drewN ?_ _ | refine blk_drew ?_ | refine blk_alloc ?_ _)); exact BK157.out)) : p := h
theorem zi7 {p : Prop} (h : p := by repeat (first | (with_reducible first | exact HB.out | apply below_alloc | apply pw_below_drewN | apply below_drew1 | refine below_set ?_ GE233.out) | exact HB.out)) : p := h
theorem zi8 {p : Prop} (h : p := by first | exact BK152.out | ((with_reducible repeat (first | refine blk_drewN ?_ _ | refine blk_drew ?_ | refine blk_alloc ?_ _)); exact BK152.out)) : p := h
theorem zi9 {p : Prop} (h : p := by repeat (first | exact (Kd.C_below HR0_2.out HB.out) | (with_reducible refine Kd.C_alloc ?_ _) | (with_reducible refine Kd.C_drewN ?_ _) | (with_reducible refine Kd.C_drew ?_))) : p := h
theorem zi10 {p : Prop} (h : p := by (try simp only [List.map_toArray, List.map_cons, List.map_nil]); first | done | rfl | (simp only [List.length_drop, List.length_take]; rfl)) : p := h
theorem zi11 {p : Prop} (h : p := by repeat (first | (with_reducible first | exact HB.out | apply below_alloc | apply pw_below_drewN | apply below_drew1 | refine below_set ?_ GE157.out) | exact HB.out)) : p := h
theorem zi12 {p : Prop} (h : p := by first | exact BK234.out | ((with_reducible repeat (first | refine blk_drewN ?_ _ | refine blk_drew ?_ | refine blk_alloc ?_ _)); exact BK234.out)) : p := h
theorem zi13 {p : Prop} (h : p := by first | exact BK158.out | ((with_reducible repeat (first | refine blk_drewN ?_ _ | refine blk_drew ?_ | refine blk_alloc ?_ _)); exact BK158.out)) : p := h
theorem zi14 {p : Prop} (h : p := by repeat (first | (with_reducible first | exact HB.out | apply below_alloc | apply pw_below_drewN | apply below_drew1 | refine below_set ?_ GE157.out | refine below_set ?_ GE158.out | refine below_set ?_ GE166.out) | exact HB.out)) : p := h
theorem zi15 {p : Prop} (h : p := by first | rfl | (simp; done) | (simp [*]; done)) : p := h
theorem zi16 {p : Prop} (h : p := by first | rfl | (simp [errW_none, errW_some] <;> rfl) | (simp [*, errW_none, errW_some] <;> rfl)) : p := h
theorem zi17 {p : Prop} (h : p := by repeat (first | (with_reducible first | exact HB.out | apply below_alloc | apply pw_below_drewN | apply below_drew1 | refine below_set ?_ GE233.out | refine below_set ?_ GE234.out | refine below_set ?_ GE241.out) | exact HB.out)) : p := h
theorem zi18 {p : Prop} (h : p := by repeat (first | exact (Kd.C_below HR0_1.out HB.out) | (with_reducible refine Kd.C_alloc ?_ _) | (with_reducible refine Kd.C_drewN ?_ _) | (with_reducible refine Kd.C_drew ?_))) : p := h
theorem zi19 {p : Prop} (h : p := by repeat (first | exact (Kd.C_below HR0_0.out HB.out) | (with_reducible refine Kd.C_alloc ?_ _) | (with_reducible refine Kd.C_drewN ?_ _) | (with_reducible refine Kd.C_drew ?_))) : p := h
theorem zi20 {p : Prop} (h : p := by first | exact Kd.S_nil _ _ _ _ _ | exact Kd.N_nil _ _ _ _ _ | exact Kd.V_nil _ _ _ _ _ | exact Kd.Q_nil _ _ _ _ _ | exact Kd.R_nil _ _ _ _ _) : p := h
theorem zi21 {p : Prop} (h : p := by first | exact Kd.R_nil _ _ _ _ _ | exact Kd.N_nil _ _ _ _ _ | exact Kd.V_nil _ _ _ _ _ | exact Kd.Q_nil _ _ _ _ _ | exact Kd.S_nil _ _ _ _ _) : p := h
theorem zi22 {p : Prop} (h : p := by rw [hg]; exact (below_size zi2)) : p := h
theorem zi23 {p : Prop} (h : p := by rw [hg]; exact Nat.ne_of_lt (blk_lt (g := gb233) (o := .cells #[.int .i64 a0_0, .int .i64 a0_1, .slice A0_2 l0_2.length c0_2] 30 (0, 0)) zi4)) : p := h
theorem zi24 {p : Prop} (h : p := by rw [hg]; exact Nat.ne_of_lt (blk_lt (g := gb157) (o := .cells #[.int .i64 a0_0, .int .i64 a0_1, .slice A0_2 l0_2.length c0_2] 30 (0, 0)) zi6)) : p := h
theorem zi25 {p : Prop} (h : p := by rw [hg]; exact Nat.ne_of_gt (blk_lt (g := gb233) (o := .cells #[.int .i64 a0_0, .int .i64 a0_1, .slice A0_2 l0_2.length c0_2] 30 (0, 0)) zi4)) : p := h
theorem zi26 {p : Prop} (h : p := by rw [hg]; exact Nat.ne_of_gt (blk_lt (g := gb157) (o := .cells #[.int .i64 a0_0, .int .i64 a0_1, .slice A0_2 l0_2.length c0_2] 30 (0, 0)) zi6)) : p := h
theorem zi27 {p : Prop} (h : p := by rw [hg]; exact (below_size zi7)) : p := h
/-! ### spec_guPairs: function 20 -/
mutual
def spec_guPairs.j1 : Nat → Int → Int → List Int → List Int → Option (Int)
 | 0, _, _, _, _ => none
 | k + 1, x1, x5, x153000, x153001 => if x5 = (x153000.length : Int) then (some 0) else (if 0 ≤ x5 then ((spec_guPairs.f k x153000 x153001 (Go.bits .andNot .i64 x1 (shl .i64 1 x5))).bind fun t153 => (spec_guPairs.l1 k (Go.bits .andNot .i64 x1 (shl .i64 1 x5)) x5 t153 (wrap64 (x5 + 1)) x153000 x153001)) else (none))
def spec_guPairs.l1 : Nat → Int → Int → Int → Int → List Int → List Int → Option (Int)
 | 0, _, _, _, _, _, _ => none
 | k + 1, x1, x5, x6, x7, x153000, x153001 => if x7 < (x153000.length : Int) then (if 0 ≤ x7 then (if (Int.tmod (shr .i64 x1 x7) 2) = 1 then (if 0 ≤ x5 then (if x5 < (x153001.length : Int) then (spec_guPairs.j3 k x1 x5 x6 x7 ((Int.tmod (shr .i64 (rd x153001 x5) x7) 2) == 1) x153000 x153001) else (none)) else (none)) else (spec_guPairs.j3 k x1 x5 x6 x7 false x153000 x153001)) else (none)) else (some x6)
def spec_guPairs.j3 : Nat → Int → Int → Int → Int → Bool → List Int → List Int → Option (Int)
 | 0, _, _, _, _, _, _, _ => none
 | k + 1, x1, x5, x6, x7, x58, x153000, x153001 => if x58 = true then (if 0 ≤ x7 then ((spec_guPairs.f k x153000 x153001 (Go.bits .andNot .i64 x1 (shl .i64 1 x7))).bind fun t155 => ((spec_l1Most.f x6 (wrap64 (1 + t155))).bind fun t156 => (spec_guPairs.l1 k x1 x5 t156 (wrap64 (x7 + 1)) x153000 x153001))) else (none)) else (spec_guPairs.l1 k x1 x5 x6 (wrap64 (x7 + 1)) x153000 x153001)
def spec_guPairs.l0 : Nat → Int → Int → List Int → List Int → Option (Int)
 | 0, _, _, _, _ => none
 | k + 1, x1, x5, x153000, x153001 => if x5 < (x153000.length : Int) then (if 0 ≤ x5 then (if (Int.tmod (shr .i64 x1 x5) 2) = 0 then (spec_guPairs.l0 k x1 (wrap64 (x5 + 1)) x153000 x153001) else (spec_guPairs.j1 k x1 x5 x153000 x153001)) else (none)) else (spec_guPairs.j1 k x1 x5 x153000 x153001)
def spec_guPairs.f : Nat → List Int → List Int → Int → Option (Int)
 | 0, _, _, _ => none
 | k + 1, l0_0, l0_1, a1 => spec_guPairs.l0 k a1 0 l0_0 l0_1
end
def spec_guPairs.T12 : Bool × List (List Nat × List Nat) := (true, [([], []), ([], []), ([], []), ([], []), ([3], [3]), ([2, 4], [2, 4]), ([1, 5], [1, 5]), ([6], [6]), ([0, 7, 6], [0, 7]), ([8, 8, 0, 1, 2, 3, 4, 5, 6, 7, 8], [0, 8])])
def spec_guPairs.B12 : List Nat := [0, 0, 0, 0, 8, 28, 62, 126, 255, 511]
theorem spec_guPairs.tab12 : rtab .any (opsOf Try.f20 12) = spec_guPairs.T12 := by kernel_rfl
theorem spec_guPairs.bits12 : waitsOk spec_guPairs.T12.2 spec_guPairs.B12 = true := by kernel_rfl
set_option maxHeartbeats 8000000 in
set_option maxRecDepth 100000 in
theorem spec_guPairs.calls (k : Nat) : ∀ (A0_0 : Option Addr) (c0_0 : Nat) (l0_0 : List Int) (A0_1 : Option Addr) (c0_1 : Nat) (l0_1 : List Int) (a1 : Int) (r : Int) (w : World) (hr0_0 : Kd.C (Kd.int .i64) w A0_0 l0_0.length l0_0) (hc0_0 : l0_0.length ≤ c0_0) (hr0_1 : Kd.C (Kd.int .i64) w A0_1 l0_1.length l0_1) (hc0_1 : l0_1.length ≤ c0_1) (h : spec_guPairs.f k l0_0 l0_1 a1 = some r),
  Calls Try.prog 20 #[.agg #[.slice A0_0 l0_0.length c0_0, .slice A0_1 l0_1.length c0_1], .int .i64 a1] w fun e w' => e = .returned (.int .i64 r) ∧ Below w.heap.size w w' := by
 induction k using Nat.strongRecOn with
 | _ k ih =>
 intro A0_0 c0_0 l0_0 A0_1 c0_1 l0_1 a1 r w hr0_0 hc0_0 hr0_1 hc0_1 h
 cases k with
 | zero => exact absurd h (by simp [spec_guPairs.f])
 | succ k =>
 simp only [spec_guPairs.f] at h
 have hu45 := Try.underlying45
 have HR0_0 := Aside0.mk hr0_0
 have HC0_0 := Aside0.mk hc0_0
 clear hr0_0 hc0_0
 have HR0_1 := Aside0.mk hr0_1
 have HC0_1 := Aside0.mk hc0_1
 clear hr0_1 hc0_1
 have HB := Aside0.mk (Below.refl w.heap.size w)
 have H : (spec_guPairs.l0 k a1 0 l0_0 l0_1) = some r := h
 clear h
 have HC3 := Aside0.mk H
 clear H
 go_enter Try.func20, Try.ntmps20
 go_upto_block 0 with (first | ((with_reducible refine gate_dst (N := 2) rfl ?_); refine box_event ?hg (N := 2) ?hd (cs := #[.slice A0_0 l0_0.length c0_0, .slice A0_1 l0_1.length c0_1]) (t := 45) ?hr ?_; (case hd => rfl); (case hg => rfl); (case hr => first | (go_simp; done) | (go_simp; rfl)); intro gb152 hg w4 hbox hb; have n0_ := Aside0.mk (below_step zi2 hb); have n1_ := Aside0.mk (hbox); have n2_ := Aside0.mk ((zi22 : w.heap.size ≤ gb152)); have n3_ := Aside0.mk ((zi22 : w.heap.size ≤ gb152)); clear HB; have HB := n0_; have BK152 := n1_; have GW152 := n2_; have GE152 := n3_; clear n0_ n1_ n2_ n3_; clear hb hbox hg))
 (try simp only [Act.put, List.setIfInBounds_toArray, List.set_cons_zero, List.set_cons_succ])
 go_cut [5] (fun v5 wc => ∃ (kq : Nat) (x5_2 : Int), v5 = .int .i64 x5_2 ∧ Aside0 (spec_guPairs.j1 kq a1 x5_2 l0_0 l0_1 = some r) ∧ Aside0 (kq ≤ k) ∧ Aside0 (wc.heap[gb152]? = some (.cells #[(.slice A0_0 l0_0.length c0_0), (.slice A0_1 l0_1.length c0_1)] 45 (0, 0))) ∧ Aside0 (Below w.heap.size w wc))
 case first =>
  have H := HC3.out
  clear HC3
  have H' := Aside0.mk H
  clear H
  go_wp2
  go_loopg [5] k (fun kq v5 w' => ∃ (x5_1 : Int), v5 = .int .i64 x5_1 ∧ Aside0 (spec_guPairs.l0 kq a1 x5_1 l0_0 l0_1 = some r) ∧ Aside0 (kq ≤ k) ∧ Aside0 (w'.heap[gb152]? = some (.cells #[(.slice A0_0 l0_0.length c0_0), (.slice A0_1 l0_1.length c0_1)] 45 (0, 0))) ∧ Aside0 (Below w.heap.size w w'))
  case atStart => exact ⟨(0), zi15, H', ⟨Nat.le_refl _⟩, ⟨zi8⟩, ⟨zi3⟩⟩
  case round =>
   clear H'
   try clear c2; try clear p2
   obtain ⟨x5_1, rfl, HA, HK1, BK152, HB⟩ := hrel
   cases gk with
   | zero => exact absurd HA.out (by simp [spec_guPairs.l0])
   | succ k1 =>
    have H := HA.out
    clear HA
    simp only [spec_guPairs.l0] at H
    by_cases c5 : x5_1 < (l0_0.length : Int)
    ·rw [if_pos c5] at H
     have c5b0 : decide (x5_1 < (l0_0.length : Int)) = true := decide_eq_true c5
     clear c5
     (first | rw [c5b0] | (simp only [i64_w, i32_w]; rw [c5b0]) | skip)
     by_cases c6 : 0 ≤ x5_1
     ·rw [if_pos c6] at H
      have c6b0 := eq_true c6
      have c6b1 : decide (0 ≤ x5_1) = true := decide_eq_true c6
      clear c6
      obtain ⟨ji7, hji7⟩ : ∃ j_ : Int, (shr .i64 a1 x5_1) = j_ := ⟨_, rfl⟩
      replace H : (if (Int.tmod (ji7) 2) = 0 then (spec_guPairs.l0 k1 a1 (wrap64 (x5_1 + 1)) l0_0 l0_1) else (spec_guPairs.j1 k1 a1 x5_1 l0_0 l0_1)) = some r := by first | (rw [hji7] at H; exact H) | (simp only [hji7] at H ⊢; exact H)
      have hji7_ : (a1 / 2 ^ min x5_1.toNat 64) = ji7 := hji7
      have hji7z : x5_1 ≤ 64 → (a1 / 2 ^ x5_1.toNat) = ji7 := shr_small hji7
      by_cases c8 : (Int.tmod (ji7) 2) = 0
      ·rw [if_pos c8] at H
       have c8b0 : ((Int.tmod (ji7) 2) == 0) = true := beq_iff_eq.mpr c8
       have c8b1 : ((Int.tmod (ji7) 2) != 0) = false := bne_eq_false_iff_eq.mpr c8
       clear c8
       have H' := Aside0.mk H
       clear H
       have hcz9_0 : wr.cell? ⟨gb152, 0, none⟩ = some (.slice A0_0 l0_0.length c0_0) := (blk_cell BK152.out 0).trans rfl
       have hcz9_1 : wr.cell? ⟨gb152, 1, none⟩ = some (.slice A0_1 l0_1.length c0_1) := (blk_cell BK152.out 1).trans rfl
       have hfz9_0 := blk_frozen BK152.out 0
       have hfz9_1 := blk_frozen BK152.out 1
       go_wp2
       go_roundg k1
       case measure => have := HK1.out; omega
       case rel => exact ⟨(wrap64 (x5_1 + 1)), zi15, H', ⟨by have := HK1.out; omega⟩, ⟨zi8⟩, ⟨zi3⟩⟩
      ·rw [if_neg c8] at H
       have c8b0 : ((Int.tmod (ji7) 2) == 0) = false := beq_eq_false_iff_ne.mpr c8
       have c8b1 : ((Int.tmod (ji7) 2) != 0) = true := bne_iff_ne.mpr c8
       have H' := Aside0.mk H
       clear H
       have hcz10_0 : wr.cell? ⟨gb152, 0, none⟩ = some (.slice A0_0 l0_0.length c0_0) := (blk_cell BK152.out 0).trans rfl
       have hcz10_1 : wr.cell? ⟨gb152, 1, none⟩ = some (.slice A0_1 l0_1.length c0_1) := (blk_cell BK152.out 1).trans rfl
       have hfz10_0 := blk_frozen BK152.out 0
       have hfz10_1 := blk_frozen BK152.out 1
       go_wp2
       go_meet
       case rel => exact ⟨_, (x5_1), zi15, H', ⟨by have := HK1.out; first | omega | exact Nat.le_refl _⟩, ⟨zi8⟩, ⟨zi3⟩⟩
     ·rw [if_neg c6] at H
      exact absurd H (by simp)
    ·rw [if_neg c5] at H
     have c5b0 : decide (x5_1 < (l0_0.length : Int)) = false := decide_eq_false c5
     clear c5
     (first | rw [c5b0] | (simp only [i64_w, i32_w]; rw [c5b0]) | skip)
     have H' := Aside0.mk H
     clear H
     have hcz11_0 : wr.cell? ⟨gb152, 0, none⟩ = some (.slice A0_0 l0_0.length c0_0) := (blk_cell BK152.out 0).trans rfl
     have hcz11_1 : wr.cell? ⟨gb152, 1, none⟩ = some (.slice A0_1 l0_1.length c0_1) := (blk_cell BK152.out 1).trans rfl
     have hfz11_0 := blk_frozen BK152.out 0
     have hfz11_1 := blk_frozen BK152.out 1
     go_wp2
     go_meet
     case rel => exact ⟨_, (x5_1), zi15, H', ⟨by have := HK1.out; first | omega | exact Nat.le_refl _⟩, ⟨zi8⟩, ⟨zi3⟩⟩
 case rest =>
  clear HC3
  try clear c2; try clear p2; try clear c5; try clear c5b0; try clear c6; try clear c6b0; try clear c6b1; try clear p6; try clear c8; try clear c8b0; try clear c8b1; try clear hcz10_0; try clear hcz10_1; try clear hcz11_0; try clear hcz11_1; try clear hcz9_0; try clear hcz9_1; try clear hfz10_0; try clear hfz10_1; try clear hfz11_0; try clear hfz11_1; try clear hfz9_0; try clear hfz9_1; try clear p2
  obtain ⟨kq, x5_2, rfl, HA, HJ2, BK152, HB⟩ := hcut
  cases kq with
  | zero => exact absurd HA.out (by simp [spec_guPairs.j1])
  | succ kj2 =>
   have H := HA.out
   clear HA
   simp only [spec_guPairs.j1] at H
   by_cases c12 : x5_2 = (l0_0.length : Int)
   ·rw [if_pos c12] at H
    have c12b0 : (x5_2 == (l0_0.length : Int)) = true := beq_iff_eq.mpr c12
    have c12b1 : (x5_2 != (l0_0.length : Int)) = false := bne_eq_false_iff_eq.mpr c12
    clear c12
    obtain rfl := Option.some.inj H
    have hcz13_0 : wc.cell? ⟨gb152, 0, none⟩ = some (.slice A0_0 l0_0.length c0_0) := (blk_cell BK152.out 0).trans rfl
    have hcz13_1 : wc.cell? ⟨gb152, 1, none⟩ = some (.slice A0_1 l0_1.length c0_1) := (blk_cell BK152.out 1).trans rfl
    have hfz13_0 := blk_frozen BK152.out 0
    have hfz13_1 := blk_frozen BK152.out 1
    go_wp2
    go_ret
    exact ⟨zi16, zi3⟩
   ·rw [if_neg c12] at H
    have c12b0 : (x5_2 == (l0_0.length : Int)) = false := beq_eq_false_iff_ne.mpr c12
    have c12b1 : (x5_2 != (l0_0.length : Int)) = true := bne_iff_ne.mpr c12
    by_cases c14 : 0 ≤ x5_2
    ·rw [if_pos c14] at H
     have c14b0 := eq_true c14
     have c14b1 : decide (0 ≤ x5_2) = true := decide_eq_true c14
     clear c14
     obtain ⟨ji15, hji15⟩ : ∃ j_ : Int, (shl .i64 1 x5_2) = j_ := ⟨_, rfl⟩
     replace H : ((spec_guPairs.f kj2 l0_0 l0_1 (Go.bits .andNot .i64 a1 (ji15))).bind fun t153 => (spec_guPairs.l1 kj2 (Go.bits .andNot .i64 a1 (ji15)) x5_2 t153 (wrap64 (x5_2 + 1)) l0_0 l0_1)) = some r := by first | (rw [hji15] at H; exact H) | (simp only [hji15] at H ⊢; exact H)
     have hji15_ : (IntKind.i64.wrap (1 * 2 ^ min x5_2.toNat 64)) = ji15 := hji15
     have hji15z : x5_2 ≤ 64 → (IntKind.i64.wrap (1 * 2 ^ x5_2.toNat)) = ji15 := shl_small hji15
     have hji15u : (IntKind.i64.wrap (2 ^ min x5_2.toNat 64)) = ji15 := by have h_ := hji15_; rw [Int.one_mul] at h_; exact h_
     have hji15v : x5_2 ≤ 64 → (IntKind.i64.wrap (2 ^ x5_2.toNat)) = ji15 := fun hle_ => by have h_ := hji15z hle_; rw [Int.one_mul] at h_; exact h_
     have hji15y : (wrap64 (1 * 2 ^ min x5_2.toNat 64)) = ji15 := (i64_w _).symm.trans hji15_
     have hji15x : x5_2 ≤ 64 → (wrap64 (1 * 2 ^ x5_2.toNat)) = ji15 := fun h_ => (i64_w _).symm.trans (hji15z h_)
     replace H := Option.bind_eq_some_iff.mp H
     obtain ⟨t153, A160, H⟩ := H
     replace H : (spec_guPairs.l1 kj2 (Go.bits .andNot .i64 a1 (ji15)) x5_2 t153 (wrap64 (x5_2 + 1)) l0_0 l0_1) = some r := H
     have A16 := Aside0.mk A160
     clear A160
     have H' := Aside0.mk H
     clear H
     have hcz17_0 : wc.cell? ⟨gb152, 0, none⟩ = some (.slice A0_0 l0_0.length c0_0) := (blk_cell BK152.out 0).trans rfl
     have hcz17_1 : wc.cell? ⟨gb152, 1, none⟩ = some (.slice A0_1 l0_1.length c0_1) := (blk_cell BK152.out 1).trans rfl
     have hfz17_0 := blk_frozen BK152.out 0
     have hfz17_1 := blk_frozen BK152.out 1
     go_wp2_with (first | ((with_reducible refine gate_callee (f := 20) rfl ?_); refine goesL_ (some 33) rfl rfl Try.func20 (by kernel_rfl) rfl #[.agg #[.slice A0_0 l0_0.length c0_0, .slice A0_1 l0_1.length c0_1], .int .i64 (Go.bits .andNot .i64 a1 (ji15))] rfl (by (try simp only [List.map_toArray, List.map_cons, List.map_nil]); first | done | (simp only [hji15]; rfl) | rfl | (simp only [List.length_drop, List.length_take]; rfl)) ?_; (with_reducible refine (ih kj2 (by have := HJ2.out; omega) _ _ l0_0 _ _ l0_1 (Go.bits .andNot .i64 a1 (ji15)) t153 _ ?side1 ?side2 ?side3 ?side4 A16.out).mono ?_); (case side1 => exact zi19); (case side2 => exact HC0_0.out); (case side3 => exact zi18); (case side4 => exact HC0_1.out); rintro e w18 ⟨rfl, hb⟩; refine ⟨_, rfl, ?_⟩; have n0_ := Aside0.mk (blk_below (g := gb152) (o := .cells #[.slice A0_0 l0_0.length c0_0, .slice A0_1 l0_1.length c0_1] 45 (0, 0)) zi8 hb); have n1_ := Aside0.mk (below_step zi3 hb); clear BK152; clear HB; have BK152 := n0_; have HB := n1_; clear n0_ n1_; (try clear hb); (try clear hb2); (try clear hk); (try clear hi); (try clear hna_); (try clear hnb_)))
     go_loopg [6, 7] kj2 (fun kq v6 v7 w' => ∃ (x6_2 : Int) (x7_2 : Int), v6 = .int .i64 x6_2 ∧ v7 = .int .i64 x7_2 ∧ Aside0 (spec_guPairs.l1 kq (Go.bits .andNot .i64 a1 (ji15)) x5_2 x6_2 x7_2 l0_0 l0_1 = some r) ∧ Aside0 (kq ≤ kj2) ∧ Aside0 (w'.heap[gb152]? = some (.cells #[(.slice A0_0 l0_0.length c0_0), (.slice A0_1 l0_1.length c0_1)] 45 (0, 0))) ∧ Aside0 (Below w.heap.size w w'))
     case atStart => exact ⟨(t153), (wrap64 (x5_2 + 1)), zi15, zi15, H', ⟨Nat.le_refl _⟩, ⟨zi8⟩, ⟨zi3⟩⟩
     case round =>
      clear H'
      try clear c1; try clear c2; try clear p2; try clear c5; try clear c5b0; try clear c6; try clear c6b0; try clear c6b1; try clear p6; try clear c8; try clear c8b0; try clear c8b1; try clear c12; try clear c12b0; try clear c12b1; try clear c14; try clear c14b0; try clear c14b1; try clear hcz10_0; try clear hcz10_1; try clear hcz11_0; try clear hcz11_1; try clear hcz13_0; try clear hcz13_1; try clear hcz17_0; try clear hcz17_1; try clear hcz9_0; try clear hcz9_1; try clear hfz10_0; try clear hfz10_1; try clear hfz11_0; try clear hfz11_1; try clear hfz13_0; try clear hfz13_1; try clear hfz17_0; try clear hfz17_1
      try clear hfz9_0; try clear hfz9_1; try clear p2; try clear p6
      obtain ⟨x6_2, x7_2, rfl, rfl, HA, HK2, BK152, HB⟩ := hrel
      cases gk with
      | zero => exact absurd HA.out (by simp [spec_guPairs.l1])
      | succ k2 =>
       have H := HA.out
       clear HA
       simp only [spec_guPairs.l1] at H
       by_cases c19 : x7_2 < (l0_0.length : Int)
       ·rw [if_pos c19] at H
        have c19b0 : decide (x7_2 < (l0_0.length : Int)) = true := decide_eq_true c19
        clear c19
        have HC20 := Aside0.mk H
        clear H
        have hcz21_0 : wr.cell? ⟨gb152, 0, none⟩ = some (.slice A0_0 l0_0.length c0_0) := (blk_cell BK152.out 0).trans rfl
        have hcz21_1 : wr.cell? ⟨gb152, 1, none⟩ = some (.slice A0_1 l0_1.length c0_1) := (blk_cell BK152.out 1).trans rfl
        have hfz21_0 := blk_frozen BK152.out 0
        have hfz21_1 := blk_frozen BK152.out 1
        go_upto_region 11 with (fail)
        go_cut [58] (fun v58 wc => ∃ (kq : Nat) (x58_19 : Bool), v58 = .bool x58_19 ∧ Aside0 (spec_guPairs.j3 kq (Go.bits .andNot .i64 a1 (ji15)) x5_2 x6_2 x7_2 x58_19 l0_0 l0_1 = some r) ∧ Aside0 (kq ≤ k2) ∧ Aside0 (wc.heap[gb152]? = some (.cells #[(.slice A0_0 l0_0.length c0_0), (.slice A0_1 l0_1.length c0_1)] 45 (0, 0))) ∧ Aside0 (Below w.heap.size w wc))
        case first =>
         have H := HC20.out
         clear HC20
         by_cases c22 : 0 ≤ x7_2
         ·rw [if_pos c22] at H
          have c22b0 := eq_true c22
          have c22b1 : decide (0 ≤ x7_2) = true := decide_eq_true c22
          clear c22
          obtain ⟨ji23, hji23⟩ : ∃ j_ : Int, (shr .i64 (Go.bits .andNot .i64 a1 (ji15)) x7_2) = j_ := ⟨_, rfl⟩
          replace H : (if (Int.tmod (ji23) 2) = 1 then (if 0 ≤ x5_2 then (if x5_2 < (l0_1.length : Int) then (spec_guPairs.j3 k2 (Go.bits .andNot .i64 a1 (ji15)) x5_2 x6_2 x7_2 ((Int.tmod (shr .i64 (rd l0_1 x5_2) x7_2) 2) == 1) l0_0 l0_1) else (none)) else (none)) else (spec_guPairs.j3 k2 (Go.bits .andNot .i64 a1 (ji15)) x5_2 x6_2 x7_2 false l0_0 l0_1)) = some r := by first | (rw [hji23] at H; exact H) | (simp only [hji23] at H ⊢; exact H)
          have hji23_ : ((Go.bits .andNot .i64 a1 (ji15)) / 2 ^ min x7_2.toNat 64) = ji23 := hji23
          have hji23z : x7_2 ≤ 64 → ((Go.bits .andNot .i64 a1 (ji15)) / 2 ^ x7_2.toNat) = ji23 := shr_small hji23
          by_cases c24 : (Int.tmod (ji23) 2) = 1
          ·rw [if_pos c24] at H
           have c24b0 : ((Int.tmod (ji23) 2) == 1) = true := beq_iff_eq.mpr c24
           have c24b1 : ((Int.tmod (ji23) 2) != 1) = false := bne_eq_false_iff_eq.mpr c24
           clear c24
           (first | rw [c24b0] | (simp only [i64_w, i32_w]; rw [c24b0]) | skip)
           by_cases c25 : 0 ≤ x5_2
           ·rw [if_pos c25] at H
            have c25b0 : decide (0 ≤ x5_2) = true := decide_eq_true c25
            clear c25
            by_cases c26 : x5_2 < (l0_1.length : Int)
            ·rw [if_pos c26] at H
             have c26b0 : decide (x5_2 < (l0_1.length : Int)) = true := decide_eq_true c26
             clear c26
             have c27b0 := eq_true (of_decide_eq_true (by first | (with_reducible assumption) | assumption) : 0 ≤ x7_2)
             obtain ⟨ji28, hji28⟩ : ∃ j_ : Int, (shr .i64 (rd l0_1 x5_2) x7_2) = j_ := ⟨_, rfl⟩
             replace H : (spec_guPairs.j3 k2 (Go.bits .andNot .i64 a1 (ji15)) x5_2 x6_2 x7_2 ((Int.tmod (ji28) 2) == 1) l0_0 l0_1) = some r := by first | (rw [hji28] at H; exact H) | (simp only [hji28] at H ⊢; exact H)
             have hji28_ : ((rd l0_1 x5_2) / 2 ^ min x7_2.toNat 64) = ji28 := hji28
             have hji28z : x7_2 ≤ 64 → ((rd l0_1 x5_2) / 2 ^ x7_2.toNat) = ji28 := shr_small hji28
             have H' := Aside0.mk H
             clear H
             have hcz29_0 : wr.cell? ⟨gb152, 0, none⟩ = some (.slice A0_0 l0_0.length c0_0) := (blk_cell BK152.out 0).trans rfl
             have hcz29_1 : wr.cell? ⟨gb152, 1, none⟩ = some (.slice A0_1 l0_1.length c0_1) := (blk_cell BK152.out 1).trans rfl
             have hfz29_0 := blk_frozen BK152.out 0
             have hfz29_1 := blk_frozen BK152.out 1
             have p154 : 0 ≤ (x5_2 : Int) := of_decide_eq_true (by first | (with_reducible assumption) | assumption)
             have q154 : x5_2 < (l0_1.length : Int) := of_decide_eq_true (by first | (with_reducible assumption) | assumption)
             obtain ⟨ad154, e154, hx154_0⟩ := Kd.at_int HR0_1.out x5_2 p154 q154
             cases e154
             (first | replace hx154_0 := (HB.out.cell (World.block_lt_of_cell? w _ hx154_0)).trans hx154_0 | skip)
             replace p154 := eq_true p154
             replace q154 := eq_true q154
             go_wp2
             go_meet
             case rel => exact ⟨_, (((Int.tmod (ji28) 2) == 1)), (by first | rfl | (simp; done) | (simp only [← hji28] <;> (first | rfl | simp)) | (simp [*]; done)), H', ⟨by have := HJ2.out; have := HK2.out; first | omega | exact Nat.le_refl _⟩, ⟨zi8⟩, ⟨zi3⟩⟩
            ·rw [if_neg c26] at H
             exact absurd H (by simp)
           ·rw [if_neg c25] at H
            exact absurd H (by simp)
          ·rw [if_neg c24] at H
           have c24b0 : ((Int.tmod (ji23) 2) == 1) = false := beq_eq_false_iff_ne.mpr c24
           have c24b1 : ((Int.tmod (ji23) 2) != 1) = true := bne_iff_ne.mpr c24
           (first | rw [c24b0] | (simp only [i64_w, i32_w]; rw [c24b0]) | skip)
           have H' := Aside0.mk H
           clear H
           go_wp2
           go_meet
           case rel => exact ⟨_, (false), zi15, H', ⟨by have := HJ2.out; have := HK2.out; first | omega | exact Nat.le_refl _⟩, ⟨zi8⟩, ⟨zi3⟩⟩
         ·rw [if_neg c22] at H
          exact absurd H (by simp)
        case rest =>
         clear HC20
         try clear c1; try clear p1; try clear q1; try clear hx1; try clear c2; try clear p2; try clear c5; try clear c5b0; try clear c6; try clear c6b0; try clear c6b1; try clear p6; try clear c8; try clear c8b0; try clear c8b1; try clear c12; try clear c12b0; try clear c12b1; try clear c14; try clear c14b0; try clear c14b1; try clear p15; try clear q15; try clear hx15; try clear c19; try clear c19b0; try clear c20; try clear c22; try clear c22b0; try clear c22b1; try clear c24; try clear c24b0; try clear c24b1; try clear c25; try clear c25b0; try clear c26; try clear c26b0; try clear c27; try clear c27b0
         try clear hcz10_0; try clear hcz10_1; try clear hcz11_0; try clear hcz11_1; try clear hcz13_0; try clear hcz13_1; try clear hcz17_0; try clear hcz17_1; try clear hcz21_0; try clear hcz21_1; try clear hcz29_0; try clear hcz29_1; try clear hcz9_0; try clear hcz9_1; try clear hfz10_0; try clear hfz10_1; try clear hfz11_0; try clear hfz11_1; try clear hfz13_0; try clear hfz13_1; try clear hfz17_0; try clear hfz17_1; try clear hfz21_0; try clear hfz21_1; try clear hfz29_0; try clear hfz29_1; try clear hfz9_0; try clear hfz9_1; try clear hx154_0; try clear p154; try clear p2; try clear p6; try clear q154
         obtain ⟨kq, x58_19, rfl, HA, HJ19, BK152, HB⟩ := hcut
         cases kq with
         | zero => exact absurd HA.out (by simp [spec_guPairs.j3])
         | succ kj19 =>
          have H := HA.out
          clear HA
          simp only [spec_guPairs.j3] at H
          by_cases c30 : x58_19 = true
          ·subst c30
           have H1 : (if 0 ≤ x7_2 then ((spec_guPairs.f kj19 l0_0 l0_1 (Go.bits .andNot .i64 (Go.bits .andNot .i64 a1 (ji15)) (shl .i64 1 x7_2))).bind fun t155 => ((spec_l1Most.f x6_2 (wrap64 (1 + t155))).bind fun t156 => (spec_guPairs.l1 kj19 (Go.bits .andNot .i64 a1 (ji15)) x5_2 t156 (wrap64 (x7_2 + 1)) l0_0 l0_1))) else (none)) = some r := by rw [if_pos rfl] at H; exact H
           clear H
           have H := H1
           clear H1
           by_cases c31 : 0 ≤ x7_2
           ·rw [if_pos c31] at H
            have c31b0 := eq_true c31
            have c31b1 : decide (0 ≤ x7_2) = true := decide_eq_true c31
            clear c31
            obtain ⟨ji32, hji32⟩ : ∃ j_ : Int, (shl .i64 1 x7_2) = j_ := ⟨_, rfl⟩
            replace H : ((spec_guPairs.f kj19 l0_0 l0_1 (Go.bits .andNot .i64 (Go.bits .andNot .i64 a1 (ji15)) (ji32))).bind fun t155 => ((spec_l1Most.f x6_2 (wrap64 (1 + t155))).bind fun t156 => (spec_guPairs.l1 kj19 (Go.bits .andNot .i64 a1 (ji15)) x5_2 t156 (wrap64 (x7_2 + 1)) l0_0 l0_1))) = some r := by first | (rw [hji32] at H; exact H) | (simp only [hji32] at H ⊢; exact H)
            have hji32_ : (IntKind.i64.wrap (1 * 2 ^ min x7_2.toNat 64)) = ji32 := hji32
            have hji32z : x7_2 ≤ 64 → (IntKind.i64.wrap (1 * 2 ^ x7_2.toNat)) = ji32 := shl_small hji32
            have hji32u : (IntKind.i64.wrap (2 ^ min x7_2.toNat 64)) = ji32 := by have h_ := hji32_; rw [Int.one_mul] at h_; exact h_
            have hji32v : x7_2 ≤ 64 → (IntKind.i64.wrap (2 ^ x7_2.toNat)) = ji32 := fun hle_ => by have h_ := hji32z hle_; rw [Int.one_mul] at h_; exact h_
            have hji32y : (wrap64 (1 * 2 ^ min x7_2.toNat 64)) = ji32 := (i64_w _).symm.trans hji32_
            have hji32x : x7_2 ≤ 64 → (wrap64 (1 * 2 ^ x7_2.toNat)) = ji32 := fun h_ => (i64_w _).symm.trans (hji32z h_)
            replace H := Option.bind_eq_some_iff.mp H
            obtain ⟨t155, A330, H⟩ := H
            replace H : ((spec_l1Most.f x6_2 (wrap64 (1 + t155))).bind fun t156 => (spec_guPairs.l1 kj19 (Go.bits .andNot .i64 a1 (ji15)) x5_2 t156 (wrap64 (x7_2 + 1)) l0_0 l0_1)) = some r := H
            have A33 := Aside0.mk A330
            clear A330
            replace H := Option.bind_eq_some_iff.mp H
            obtain ⟨t156, A340, H⟩ := H
            replace H : (spec_guPairs.l1 kj19 (Go.bits .andNot .i64 a1 (ji15)) x5_2 t156 (wrap64 (x7_2 + 1)) l0_0 l0_1) = some r := H
            have A34 := Aside0.mk A340
            clear A340
            have H' := Aside0.mk H
            clear H
            try go_wp2
            have n0_ := Aside0.mk (blk_drew BK152.out)
            have n1_ := Aside0.mk (below_drew1 HB.out)
            clear BK152
            clear HB
            have BK152 := n0_
            have HB := n1_
            clear n0_ n1_
            refine start_ (n := 10) (S := fun w' => w'.cell? ⟨gb152, 0, none⟩ = some (.slice A0_0 l0_0.length c0_0) ∧ w'.cell? ⟨gb152, 1, none⟩ = some (.slice A0_1 l0_1.length c0_1)) (ds := []) #[false, false, false, false, false, false, false, false, false, false] (by kernel_rfl) rfl rfl ⟨(blk_cell BK152.out 0).trans rfl, (blk_cell BK152.out 1).trans rfl⟩ (fun hHeld => ?_); refine with_tabW spec_guPairs.tab12 spec_guPairs.bits12 (fun HT_ HW_ => ?_)
            generalize wc.drew = w35 at BK152 HB hHeld ⊢
            refine pure_ (i := 0) (N := some 59) (v := ?_) (a' := ?_) #[true, false, false, false, false, false, false, false, false, false] rfl rfl (any_of HT_.out (by kernel_rfl)) (fun _ _ _ h => h) (Or.inl ⟨by rfl, ?_⟩) ?_ ?_
            rotate_left
            ·intro w'
             go_simp
             with_reducible rfl
            rotate_left
            ·simp only [Act.put, List.setIfInBounds_toArray, List.set_cons_zero, List.set_cons_succ, i64_w, i32_w]
             rfl
            refine pure_ (i := 2) (N := some 61) (v := ?_) (a' := ?_) #[true, false, true, false, false, false, false, false, false, false] rfl rfl (any_of HT_.out (by kernel_rfl)) (fun _ _ _ h => h) (Or.inl ⟨by rfl, ?_⟩) ?_ ?_
            rotate_left
            ·intro w'
             go_simp
             with_reducible rfl
            rotate_left
            ·simp only [Act.put, List.setIfInBounds_toArray, List.set_cons_zero, List.set_cons_succ, i64_w, i32_w]
             rfl
            refine pure_ (i := 3) (N := some 62) (v := ?_) (a' := ?_) #[true, false, true, true, false, false, false, false, false, false] rfl rfl (any_of HT_.out (by kernel_rfl)) (fun _ _ _ h => h) (Or.inl ⟨by rfl, ?_⟩) ?_ ?_
            rotate_left
            ·intro w'
             go_simp
             with_reducible rfl
            rotate_left
            ·simp only [Act.put, List.setIfInBounds_toArray, List.set_cons_zero, List.set_cons_succ, i64_w, i32_w]
             rfl
            refine pure_ (i := 4) (N := some 63) (v := ?_) (a' := ?_) #[true, false, true, true, true, false, false, false, false, false] rfl rfl (any_of HT_.out (by kernel_rfl)) (fun _ _ _ h => h) (Or.inl ⟨by rfl, ?_⟩) ?_ ?_
            rotate_left
            ·intro w'
             go_simp
             with_reducible rfl
            rotate_left
            ·simp only [Act.put, List.setIfInBounds_toArray, List.set_cons_zero, List.set_cons_succ, i64_w, i32_w]
             rfl
            refine pure_ (i := 5) (N := some 64) (v := ?_) (a' := ?_) #[true, false, true, true, true, true, false, false, false, false] rfl rfl (any_of HT_.out (by kernel_rfl)) (fun _ _ _ h => h) (Or.inl ⟨by rfl, ?_⟩) ?_ ?_
            rotate_left
            ·intro w'
             go_simp
             with_reducible rfl
            rotate_left
            ·simp only [Act.put, List.setIfInBounds_toArray, List.set_cons_zero, List.set_cons_succ, i64_w, i32_w]
             rfl
            refine take_ (i := 1) (N := some 60) (v := ?_) (a' := ?_) #[true, true, true, true, true, true, false, false, false, false] rfl rfl (take_ofW HT_.out HW_.out (by kernel_rfl)) (fun _ _ _ h => h) (Or.inl ⟨by rfl, ?_⟩) hHeld ?_ ?_
            rotate_left
            ·rintro w' ⟨s0, s1⟩
             go_simp
             with_reducible rfl
            rotate_left
            ·simp only [Act.put, List.setIfInBounds_toArray, List.set_cons_zero, List.set_cons_succ, i64_w, i32_w]
             rfl
            refine one_ (i := 6) (N := some 65) #[true, true, true, true, true, true, true, false, false, false] rfl rfl (one_of HT_.out (by kernel_rfl)) (by decide) (fun K hK => ?_)
            refine goes_ Try.func20 (by kernel_rfl) rfl #[.agg #[.slice A0_0 l0_0.length c0_0, .slice A0_1 l0_1.length c0_1], .int .i64 (Go.bits .andNot .i64 (Go.bits .andNot .i64 a1 (ji15)) (ji32))] (by rfl) rfl rfl (by (try simp only [List.map_toArray, List.map_cons, List.map_nil]); first | done | (simp only [hji15, hji32]; rfl) | rfl | (simp only [List.length_drop, List.length_take]; rfl)) ?_
            with_reducible refine (ih kj19 (by have := HJ2.out; have := HK2.out; have := HJ19.out; omega) _ _ l0_0 _ _ l0_1 (Go.bits .andNot .i64 (Go.bits .andNot .i64 a1 (ji15)) (ji32)) t155 _ ?side1 ?side2 ?side3 ?side4 A33.out).mono ?_
            (case side1 => exact zi19)
            (case side2 => exact HC0_0.out)
            (case side3 => exact zi18)
            (case side4 => exact HC0_1.out)
            rintro e w36 ⟨rfl, hb⟩
            refine ⟨_, rfl, ?_⟩
            have n0_ := Aside0.mk (blk_below (g := gb152) (o := .cells #[.slice A0_0 l0_0.length c0_0, .slice A0_1 l0_1.length c0_1] 45 (0, 0)) zi8 hb)
            have n1_ := Aside0.mk (below_step zi3 hb)
            clear BK152
            clear HB
            have BK152 := n0_
            have HB := n1_
            clear n0_ n1_
            (try clear hb)
            (try clear hb2)
            (try clear hk)
            (try clear hi)
            (try clear hna_)
            (try clear hnb_)
            refine hK.out _ _ ⟨(blk_cell BK152.out 0).trans rfl, (blk_cell BK152.out 1).trans rfl⟩ (fun hHeld => ?_)
            clear hK K
            refine norm_ (a' := ?_) ?_ ?_
            rotate_left
            ·show Act.put _ (some 65) _ = _
             simp only [Act.put, List.setIfInBounds_toArray, List.set_cons_zero, List.set_cons_succ, i64_w, i32_w]
             rfl
            refine pure_ (i := 7) (N := some 66) (v := ?_) (a' := ?_) #[true, true, true, true, true, true, true, true, false, false] rfl rfl (any_of HT_.out (by kernel_rfl)) (fun _ _ _ h => h) (Or.inl ⟨by rfl, ?_⟩) ?_ ?_
            rotate_left
            ·intro w'
             go_simp
             with_reducible rfl
            rotate_left
            ·simp only [Act.put, List.setIfInBounds_toArray, List.set_cons_zero, List.set_cons_succ, i64_w, i32_w]
             rfl
            refine one_ (i := 8) (N := some 67) #[true, true, true, true, true, true, true, true, true, false] rfl rfl (one_of HT_.out (by kernel_rfl)) (by decide) (fun K hK => ?_)
            refine goes_ Try.func34 (by kernel_rfl) rfl #[.int .i64 x6_2, .int .i64 (wrap64 (1 + t155))] (by rfl) rfl rfl zi10 ?_
            with_reducible refine (spec_l1Most.calls x6_2 (wrap64 (1 + t155)) t156 _ A34.out).mono ?_
            rintro e w' ⟨rfl, ⟨nd, rfl⟩⟩
            refine ⟨_, rfl, ?_⟩
            refine hK.out _ _ ⟨(blk_cell BK152.out 0).trans rfl, (blk_cell BK152.out 1).trans rfl⟩ (fun hHeld => ?_)
            clear hK K
            refine norm_ (a' := ?_) ?_ ?_
            rotate_left
            ·show Act.put _ (some 67) _ = _
             simp only [Act.put, List.setIfInBounds_toArray, List.set_cons_zero, List.set_cons_succ, i64_w, i32_w]
             rfl
            refine pure_ (i := 9) (N := some 6) (v := ?_) (a' := ?_) #[true, true, true, true, true, true, true, true, true, true] rfl rfl (any_of HT_.out (by kernel_rfl)) (fun _ _ _ h => h) (Or.inl ⟨by rfl, ?_⟩) ?_ ?_
            rotate_left
            ·intro w'
             go_simp
             with_reducible rfl
            rotate_left
            ·simp only [Act.put, List.setIfInBounds_toArray, List.set_cons_zero, List.set_cons_succ, i64_w, i32_w]
             rfl
            refine done_ (done_of HT_.out (by kernel_rfl)) ?_
            try go_wp2
            go_roundg kj19
            case measure => have := HJ2.out; have := HK2.out; have := HJ19.out; omega
            case rel => exact ⟨(t156), (wrap64 (x7_2 + 1)), zi15, zi15, H', ⟨by have := HJ2.out; have := HK2.out; have := HJ19.out; omega⟩, ⟨zi8⟩, ⟨zi3⟩⟩
           ·rw [if_neg c31] at H
            exact absurd H (by simp)
          ·replace c30 := Bool.eq_false_iff.mpr c30
           subst c30
           have H1 : (spec_guPairs.l1 kj19 (Go.bits .andNot .i64 a1 (ji15)) x5_2 x6_2 (wrap64 (x7_2 + 1)) l0_0 l0_1) = some r := by rw [if_neg (show ¬ (false = true) by decide)] at H; exact H
           clear H
           have H := H1
           clear H1
           have H' := Aside0.mk H
           clear H
           go_wp2
           go_roundg kj19
           case measure => have := HJ2.out; have := HK2.out; have := HJ19.out; omega
           case rel => exact ⟨(x6_2), (wrap64 (x7_2 + 1)), zi15, zi15, H', ⟨by have := HJ2.out; have := HK2.out; have := HJ19.out; omega⟩, ⟨zi8⟩, ⟨zi3⟩⟩
       ·rw [if_neg c19] at H
        have c19b0 : decide (x7_2 < (l0_0.length : Int)) = false := decide_eq_false c19
        clear c19
        obtain rfl := Option.some.inj H
        have hcz37_0 : wr.cell? ⟨gb152, 0, none⟩ = some (.slice A0_0 l0_0.length c0_0) := (blk_cell BK152.out 0).trans rfl
        have hcz37_1 : wr.cell? ⟨gb152, 1, none⟩ = some (.slice A0_1 l0_1.length c0_1) := (blk_cell BK152.out 1).trans rfl
        have hfz37_0 := blk_frozen BK152.out 0
        have hfz37_1 := blk_frozen BK152.out 1
        go_wp2
        go_ret
        exact ⟨by first | rfl | (simp [errW_none, errW_some] <;> rfl) | (simp only [← hji15]; first | rfl | (simp [errW_none, errW_some] <;> rfl)) | (simp [*, errW_none, errW_some] <;> rfl), zi3⟩
    ·rw [if_neg c14] at H
     exact absurd H (by simp)

/-! ### spec_MostPairs: function 6 -/
def spec_MostPairs.f (k : Nat) (a0_0 : Int) (a0_1 : Int) (l0_2 : List Int) (a1_0 : Int) (a1_1 : Int) : Option (Int × Bool) := (spec_guFew.f k a0_0 a0_1 l0_2 a1_0 a1_1).bind fun t159 => (if t159 = true then ((spec_guNew.f k a0_0 a0_1 l0_2 a1_0 a1_1).bind fun bt160 => ((spec_guPairs.f k bt160.1 bt160.2 (wrap64 ((shl .i64 1 (bt160.1.length : Int)) - 1))).bind fun t167 => (some (t167, true)))) else (some (0, false)))
def spec_MostPairs.T4 : Bool × List (List Nat × List Nat) := (true, [([], []), ([], []), ([1], [1]), ([2], [2]), ([3], [3]), ([4], [4]), ([0, 5], [0, 5]), ([6, 6, 0, 1, 2, 3, 4, 5, 6], [6]), ([7, 0, 1, 2, 3, 4, 5, 6, 7], [])])
def spec_MostPairs.B4 : List Nat := [0, 0, 2, 6, 14, 30, 63, 127, 255]
theorem spec_MostPairs.tab4 : rtab .any (opsOf Try.f6 4) = spec_MostPairs.T4 := by kernel_rfl
theorem spec_MostPairs.bits4 : waitsOk spec_MostPairs.T4.2 spec_MostPairs.B4 = true := by kernel_rfl
set_option maxHeartbeats 8000000 in
set_option maxRecDepth 100000 in
theorem spec_MostPairs.calls (k : Nat) (a0_0 : Int) (a0_1 : Int) (A0_2 : Option Addr) (c0_2 : Nat) (l0_2 : List Int) (a1_0 : Int) (a1_1 : Int) (r1 : Int) (r2 : Bool) (w : World) (hr0_2 : Kd.C (Kd.int .i64) w A0_2 l0_2.length l0_2) (hc0_2 : l0_2.length ≤ c0_2) (h : spec_MostPairs.f k a0_0 a0_1 l0_2 a1_0 a1_1 = some (r1, r2)) :
  Calls Try.prog 6 #[.agg #[.int .i64 a0_0, .int .i64 a0_1, .slice A0_2 l0_2.length c0_2], .agg #[.int .i64 a1_0, .int .i64 a1_1]] w fun e w' => e = .returned (.tuple #[.int .i64 r1, .bool r2]) ∧ Below w.heap.size w w' := by
 have hu30 := Try.underlying30
 have hu32 := Try.underlying32
 have hu45 := Try.underlying45
 have HR0_2 := Aside0.mk hr0_2
 have HC0_2 := Aside0.mk hc0_2
 clear hr0_2 hc0_2
 have HB := Aside0.mk (Below.refl w.heap.size w)
 have H : ((spec_guFew.f k a0_0 a0_1 l0_2 a1_0 a1_1).bind fun t159 => (if t159 = true then ((spec_guNew.f k a0_0 a0_1 l0_2 a1_0 a1_1).bind fun bt160 => ((spec_guPairs.f k bt160.1 bt160.2 (wrap64 ((shl .i64 1 (bt160.1.length : Int)) - 1))).bind fun t167 => (some (t167, true)))) else (some (0, false)))) = some (r1, r2) := h
 clear h
 replace H := Option.bind_eq_some_iff.mp H
 obtain ⟨t159, A30, H⟩ := H
 replace H : (if t159 = true then ((spec_guNew.f k a0_0 a0_1 l0_2 a1_0 a1_1).bind fun bt160 => ((spec_guPairs.f k bt160.1 bt160.2 (wrap64 ((shl .i64 1 (bt160.1.length : Int)) - 1))).bind fun t167 => (some (t167, true)))) else (some (0, false))) = some (r1, r2) := H
 have A3 := Aside0.mk A30
 clear A30
 by_cases c4 : t159 = true
 rotate_left
 ·replace c4 := Bool.eq_false_iff.mpr c4
  subst c4
  have H1 : (some (0, false)) = some (r1, r2) := by rw [if_neg (show ¬ (false = true) by decide)] at H; exact H
  clear H
  have H := H1
  clear H1
  simp only [Option.some.injEq, Prod.mk.injEq] at H
  obtain ⟨rfl, rfl⟩ := H
  go_enter Try.func6, Try.ntmps6
  go_wp2_with (first | ((with_reducible refine gate_dst (N := 2) rfl ?_); refine box_event ?hg (N := 2) ?hd (cs := #[.int .i64 a0_0, .int .i64 a0_1, .slice A0_2 l0_2.length c0_2]) (t := 30) ?hr ?_; (case hd => rfl); (case hg => rfl); (case hr => first | (go_simp; done) | (go_simp; rfl)); intro gb157 hg w26 hbox hb; have n0_ := Aside0.mk (below_step zi2 hb); have n1_ := Aside0.mk (hbox); have n2_ := Aside0.mk ((zi22 : w.heap.size ≤ gb157)); have n3_ := Aside0.mk ((zi22 : w.heap.size ≤ gb157)); clear HB; have HB := n0_; have BK157 := n1_; have GW157 := n2_; have GE157 := n3_; clear n0_ n1_ n2_ n3_; clear hb hbox hg) | ((with_reducible refine gate_dst (N := 3) rfl ?_); refine box_event ?hg (N := 3) ?hd (cs := #[.int .i64 a1_0, .int .i64 a1_1]) (t := 32) ?hr ?_; (case hd => rfl); (case hg => rfl); (case hr => first | (go_simp; done) | (go_simp; rfl)); intro gb158 hg w27 hbox hb; have n0_ := Aside0.mk (blk_below (g := gb157) (o := .cells #[.int .i64 a0_0, .int .i64 a0_1, .slice A0_2 l0_2.length c0_2] 30 (0, 0)) zi6 hb); have n1_ := Aside0.mk (below_step zi11 hb); have n2_ := Aside0.mk (hbox); have n3_ := Aside0.mk ((by rw [hg]; exact (below_size zi11) : w.heap.size ≤ gb158)); have n4_ := Aside0.mk ((by rw [hg]; exact (below_size zi11) : w.heap.size ≤ gb158)); have n5_ := Aside0.mk ((zi24 : gb157 ≠ gb158)); have n6_ := Aside0.mk ((zi26 : gb158 ≠ gb157)); clear BK157; clear HB; have BK157 := n0_; have HB := n1_; have BK158 := n2_; have GW158 := n3_; have GE158 := n4_; have NB157_158 := n5_; have NB158_157 := n6_; clear n0_ n1_ n2_ n3_ n4_ n5_ n6_; clear hb hbox hg; have hnb28 := NB157_158.out; have hnc28 := NB158_157.out; have hcz29_0 : w27.cell? ⟨gb157, 0, none⟩ = some (.int .i64 a0_0) := (blk_cell BK157.out 0).trans rfl; have hcz29_1 : w27.cell? ⟨gb157, 1, none⟩ = some (.int .i64 a0_1) := (blk_cell BK157.out 1).trans rfl; have hcz29_2 : w27.cell? ⟨gb157, 2, none⟩ = some (.slice A0_2 l0_2.length c0_2) := (blk_cell BK157.out 2).trans rfl; have hfz29_0 := blk_frozen BK157.out 0; have hfz29_1 := blk_frozen BK157.out 1; have hfz29_2 := blk_frozen BK157.out 2; have hcz30_0 : w27.cell? ⟨gb158, 0, none⟩ = some (.int .i64 a1_0) := (blk_cell BK158.out 0).trans rfl; have hcz30_1 : w27.cell? ⟨gb158, 1, none⟩ = some (.int .i64 a1_1) := (blk_cell BK158.out 1).trans rfl; have hfz30_0 := blk_frozen BK158.out 0; have hfz30_1 := blk_frozen BK158.out 1) | ((with_reducible refine gate_callee (f := 18) rfl ?_); refine goesL_ (some 9) rfl rfl Try.func18 (by kernel_rfl) rfl #[.agg #[.int .i64 a0_0, .int .i64 a0_1, .slice A0_2 l0_2.length c0_2], .agg #[.int .i64 a1_0, .int .i64 a1_1]] rfl zi10 ?_; (with_reducible refine (spec_guFew.calls k a0_0 a0_1 _ _ l0_2 a1_0 a1_1 false _ ?side1 ?side2 A3.out).mono ?_); (case side1 => exact zi9); (case side2 => exact HC0_2.out); rintro e w31 ⟨rfl, hb⟩; refine ⟨_, rfl, ?_⟩; have n0_ := Aside0.mk (blk_below (g := gb157) (o := .cells #[.int .i64 a0_0, .int .i64 a0_1, .slice A0_2 l0_2.length c0_2] 30 (0, 0)) zi6 hb); have n1_ := Aside0.mk (blk_below (g := gb158) (o := .cells #[.int .i64 a1_0, .int .i64 a1_1] 32 (0, 0)) zi13 hb); have n2_ := Aside0.mk (below_step zi5 hb); clear BK157; clear BK158; clear HB; have BK157 := n0_; have BK158 := n1_; have HB := n2_; clear n0_ n1_ n2_; (try clear hb); (try clear hb2); (try clear hk); (try clear hi); (try clear hna_); (try clear hnb_)))
  go_ret2
  exact ⟨zi16, zi5⟩
 subst c4
 have H1 : ((spec_guNew.f k a0_0 a0_1 l0_2 a1_0 a1_1).bind fun bt160 => ((spec_guPairs.f k bt160.1 bt160.2 (wrap64 ((shl .i64 1 (bt160.1.length : Int)) - 1))).bind fun t167 => (some (t167, true)))) = some (r1, r2) := by rw [if_pos rfl] at H; exact H
 clear H
 have H := H1
 clear H1
 replace H := Option.bind_eq_some_iff.mp H
 obtain ⟨⟨t160, t163⟩, A50, H⟩ := H
 replace H : ((spec_guPairs.f k t160 t163 (wrap64 ((shl .i64 1 (t160.length : Int)) - 1))).bind fun t167 => (some (t167, true))) = some (r1, r2) := H
 have A5 := Aside0.mk A50
 clear A50
 obtain ⟨ji6, hji6⟩ : ∃ j_ : Int, (shl .i64 1 (t160.length : Int)) = j_ := ⟨_, rfl⟩
 replace H : ((spec_guPairs.f k t160 t163 (wrap64 ((ji6) - 1))).bind fun t167 => (some (t167, true))) = some (r1, r2) := by first | (rw [hji6] at H; exact H) | (simp only [hji6] at H ⊢; exact H)
 (try rw [hji6] at A3)
 (try rw [hji6] at A5)
 have hji6_ : (IntKind.i64.wrap (1 * 2 ^ min (t160.length : Int).toNat 64)) = ji6 := hji6
 have hji6z : (t160.length : Int) ≤ 64 → (IntKind.i64.wrap (1 * 2 ^ (t160.length : Int).toNat)) = ji6 := shl_small hji6
 have hji6p : (IntKind.i64.wrap (1 * 2 ^ min t160.length 64)) = ji6 := hji6_
 have hji6q : (t160.length : Int) ≤ 64 → (IntKind.i64.wrap (1 * 2 ^ t160.length)) = ji6 := hji6z
 have hji6r : (IntKind.i64.wrap (2 ^ min t160.length 64)) = ji6 := by have h_ := hji6p; rw [Int.one_mul] at h_; exact h_
 have hji6s : (t160.length : Int) ≤ 64 → (IntKind.i64.wrap (2 ^ t160.length)) = ji6 := fun hle_ => by have h_ := hji6q hle_; rw [Int.one_mul] at h_; exact h_
 have hji6u : (IntKind.i64.wrap (2 ^ min (t160.length : Int).toNat 64)) = ji6 := by have h_ := hji6_; rw [Int.one_mul] at h_; exact h_
 have hji6v : (t160.length : Int) ≤ 64 → (IntKind.i64.wrap (2 ^ (t160.length : Int).toNat)) = ji6 := fun hle_ => by have h_ := hji6z hle_; rw [Int.one_mul] at h_; exact h_
 have hji6y : (wrap64 (1 * 2 ^ min (t160.length : Int).toNat 64)) = ji6 := (i64_w _).symm.trans hji6_
 have hji6x : (t160.length : Int) ≤ 64 → (wrap64 (1 * 2 ^ (t160.length : Int).toNat)) = ji6 := fun h_ => (i64_w _).symm.trans (hji6z h_)
 replace H := Option.bind_eq_some_iff.mp H
 obtain ⟨t167, A70, H⟩ := H
 replace H : (some (t167, true)) = some (r1, r2) := H
 have A7 := Aside0.mk A70
 clear A70
 simp only [Option.some.injEq, Prod.mk.injEq] at H
 obtain ⟨rfl, rfl⟩ := H
 go_enter Try.func6, Try.ntmps6
 try go_wp2_with (first | ((with_reducible refine gate_dst (N := 2) rfl ?_); refine box_event ?hg (N := 2) ?hd (cs := #[.int .i64 a0_0, .int .i64 a0_1, .slice A0_2 l0_2.length c0_2]) (t := 30) ?hr ?_; (case hd => rfl); (case hg => rfl); (case hr => first | (go_simp; done) | (go_simp; rfl)); intro gb157 hg w8 hbox hb; have n0_ := Aside0.mk (below_step zi2 hb); have n1_ := Aside0.mk (hbox); have n2_ := Aside0.mk ((zi22 : w.heap.size ≤ gb157)); have n3_ := Aside0.mk ((zi22 : w.heap.size ≤ gb157)); clear HB; have HB := n0_; have BK157 := n1_; have GW157 := n2_; have GE157 := n3_; clear n0_ n1_ n2_ n3_; clear hb hbox hg) | ((with_reducible refine gate_dst (N := 3) rfl ?_); refine box_event ?hg (N := 3) ?hd (cs := #[.int .i64 a1_0, .int .i64 a1_1]) (t := 32) ?hr ?_; (case hd => rfl); (case hg => rfl); (case hr => first | (go_simp; done) | (go_simp; rfl)); intro gb158 hg w9 hbox hb; have n0_ := Aside0.mk (blk_below (g := gb157) (o := .cells #[.int .i64 a0_0, .int .i64 a0_1, .slice A0_2 l0_2.length c0_2] 30 (0, 0)) zi6 hb); have n1_ := Aside0.mk (below_step zi11 hb); have n2_ := Aside0.mk (hbox); have n3_ := Aside0.mk ((by rw [hg]; exact (below_size zi11) : w.heap.size ≤ gb158)); have n4_ := Aside0.mk ((by rw [hg]; exact (below_size zi11) : w.heap.size ≤ gb158)); have n5_ := Aside0.mk ((zi24 : gb157 ≠ gb158)); have n6_ := Aside0.mk ((zi26 : gb158 ≠ gb157)); clear BK157; clear HB; have BK157 := n0_; have HB := n1_; have BK158 := n2_; have GW158 := n3_; have GE158 := n4_; have NB157_158 := n5_; have NB158_157 := n6_; clear n0_ n1_ n2_ n3_ n4_ n5_ n6_; clear hb hbox hg; have hnb10 := NB157_158.out; have hnc10 := NB158_157.out; have hcz11_0 : w9.cell? ⟨gb157, 0, none⟩ = some (.int .i64 a0_0) := (blk_cell BK157.out 0).trans rfl; have hcz11_1 : w9.cell? ⟨gb157, 1, none⟩ = some (.int .i64 a0_1) := (blk_cell BK157.out 1).trans rfl; have hcz11_2 : w9.cell? ⟨gb157, 2, none⟩ = some (.slice A0_2 l0_2.length c0_2) := (blk_cell BK157.out 2).trans rfl; have hfz11_0 := blk_frozen BK157.out 0; have hfz11_1 := blk_frozen BK157.out 1; have hfz11_2 := blk_frozen BK157.out 2; have hcz12_0 : w9.cell? ⟨gb158, 0, none⟩ = some (.int .i64 a1_0) := (blk_cell BK158.out 0).trans rfl; have hcz12_1 : w9.cell? ⟨gb158, 1, none⟩ = some (.int .i64 a1_1) := (blk_cell BK158.out 1).trans rfl; have hfz12_0 := blk_frozen BK158.out 0; have hfz12_1 := blk_frozen BK158.out 1) | ((with_reducible refine gate_callee (f := 18) rfl ?_); refine goesL_ (some 9) rfl rfl Try.func18 (by kernel_rfl) rfl #[.agg #[.int .i64 a0_0, .int .i64 a0_1, .slice A0_2 l0_2.length c0_2], .agg #[.int .i64 a1_0, .int .i64 a1_1]] rfl zi10 ?_; (with_reducible refine (spec_guFew.calls k a0_0 a0_1 _ _ l0_2 a1_0 a1_1 true _ ?side1 ?side2 A3.out).mono ?_); (case side1 => exact zi9); (case side2 => exact HC0_2.out); rintro e w13 ⟨rfl, hb⟩; refine ⟨_, rfl, ?_⟩; have n0_ := Aside0.mk (blk_below (g := gb157) (o := .cells #[.int .i64 a0_0, .int .i64 a0_1, .slice A0_2 l0_2.length c0_2] 30 (0, 0)) zi6 hb); have n1_ := Aside0.mk (blk_below (g := gb158) (o := .cells #[.int .i64 a1_0, .int .i64 a1_1] 32 (0, 0)) zi13 hb); have n2_ := Aside0.mk (below_step zi5 hb); clear BK157; clear BK158; clear HB; have BK157 := n0_; have BK158 := n1_; have HB := n2_; clear n0_ n1_ n2_; (try clear hb); (try clear hb2); (try clear hk); (try clear hi); (try clear hna_); (try clear hnb_); have hcz14_0 : w13.cell? ⟨gb157, 0, none⟩ = some (.int .i64 a0_0) := (blk_cell BK157.out 0).trans rfl; have hcz14_1 : w13.cell? ⟨gb157, 1, none⟩ = some (.int .i64 a0_1) := (blk_cell BK157.out 1).trans rfl; have hcz14_2 : w13.cell? ⟨gb157, 2, none⟩ = some (.slice A0_2 l0_2.length c0_2) := (blk_cell BK157.out 2).trans rfl; have hfz14_0 := blk_frozen BK157.out 0; have hfz14_1 := blk_frozen BK157.out 1; have hfz14_2 := blk_frozen BK157.out 2; have hcz15_0 : w13.cell? ⟨gb158, 0, none⟩ = some (.int .i64 a1_0) := (blk_cell BK158.out 0).trans rfl; have hcz15_1 : w13.cell? ⟨gb158, 1, none⟩ = some (.int .i64 a1_1) := (blk_cell BK158.out 1).trans rfl; have hfz15_0 := blk_frozen BK158.out 0; have hfz15_1 := blk_frozen BK158.out 1) | ((with_reducible refine gate_callee (f := 19) rfl ?_); refine goesL_ (some 13) rfl rfl Try.func19 (by kernel_rfl) rfl #[.agg #[.int .i64 a0_0, .int .i64 a0_1, .slice A0_2 l0_2.length c0_2], .agg #[.int .i64 a1_0, .int .i64 a1_1]] rfl zi10 ?_; (with_reducible refine (spec_guNew.calls k a0_0 a0_1 _ _ l0_2 a1_0 a1_1 t160 t163 _ ?side1 ?side2 A5.out).mono ?_); (case side1 => exact zi9); (case side2 => exact HC0_2.out); rintro e w16 ⟨v161, v164, rfl, ho0, ho1, hb⟩; refine ⟨_, rfl, ?_⟩; have n0_ := Aside0.mk (Kd.R_lower ho0 (below_size zi5)); have n1_ := Aside0.mk (Kd.R_lower ho1 (below_size zi5)); have n2_ := Aside0.mk (blk_below (g := gb157) (o := .cells #[.int .i64 a0_0, .int .i64 a0_1, .slice A0_2 l0_2.length c0_2] 30 (0, 0)) zi6 hb); have n3_ := Aside0.mk (blk_below (g := gb158) (o := .cells #[.int .i64 a1_0, .int .i64 a1_1] 32 (0, 0)) zi13 hb); have n4_ := Aside0.mk (below_step zi5 hb); clear BK157; clear BK158; clear HB; have HO162 := n0_; have HO165 := n1_; have BK157 := n2_; have BK158 := n3_; have HB := n4_; clear n0_ n1_ n2_ n3_ n4_; (try clear hb); (try clear hb2); (try clear hk); (try clear hi); (try clear ho0); (try clear ho1); (try clear hna_); (try clear hnb_)) | ((with_reducible refine gate_dst (N := 6) rfl ?_); refine box_event ?hg (N := 6) ?hd (cs := #[.slice none 0 0, .slice none 0 0]) (t := 45) ?hr ?_; (case hd => rfl); (case hg => rfl); (case hr => first | (go_simp; done) | (go_simp; rfl)); intro gb166 hg w17 hbox hb; have n0_ := Aside0.mk (Kd.R_below (by first | exact HO162.out | ((with_reducible repeat (first | apply Kd.R_alloc | apply Kd.R_drewN | apply Kd.R_drew)); exact HO162.out)) hb); have n1_ := Aside0.mk (Kd.R_below (by first | exact HO165.out | ((with_reducible repeat (first | apply Kd.R_alloc | apply Kd.R_drewN | apply Kd.R_drew)); exact HO165.out)) hb); have n2_ := Aside0.mk (blk_below (g := gb157) (o := .cells #[.int .i64 a0_0, .int .i64 a0_1, .slice A0_2 l0_2.length c0_2] 30 (0, 0)) zi6 hb); have n3_ := Aside0.mk (blk_below (g := gb158) (o := .cells #[.int .i64 a1_0, .int .i64 a1_1] 32 (0, 0)) zi13 hb); have n4_ := Aside0.mk (below_step zi5 hb); have n5_ := Aside0.mk (hbox); have n6_ := Aside0.mk ((by rw [hg]; exact (below_size zi5) : w.heap.size ≤ gb166)); have n7_ := Aside0.mk ((by rw [hg]; exact (below_size zi5) : w.heap.size ≤ gb166)); have n8_ := Aside0.mk ((zi24 : gb157 ≠ gb166)); have n9_ := Aside0.mk ((zi26 : gb166 ≠ gb157)); have n10_ := Aside0.mk ((by rw [hg]; exact Nat.ne_of_lt (blk_lt (g := gb158) (o := .cells #[.int .i64 a1_0, .int .i64 a1_1] 32 (0, 0)) zi13) : gb158 ≠ gb166)); have n11_ := Aside0.mk ((by rw [hg]; exact Nat.ne_of_gt (blk_lt (g := gb158) (o := .cells #[.int .i64 a1_0, .int .i64 a1_1] 32 (0, 0)) zi13) : gb166 ≠ gb158)); clear HO162; clear HO165; clear BK157; clear BK158; clear HB; have HO162 := n0_; have HO165 := n1_; have BK157 := n2_; have BK158 := n3_; have HB := n4_; have BK166 := n5_; have GW166 := n6_; have GE166 := n7_; have NB157_166 := n8_; have NB166_157 := n9_; have NB158_166 := n10_; have NB166_158 := n11_; clear n0_ n1_ n2_ n3_ n4_ n5_ n6_ n7_ n8_ n9_ n10_ n11_; clear hb hbox hg; obtain ⟨Ao18, co18, eo18⟩ := Kd.R_slice HO162.out; subst eo18; have hnb19 := NB166_157.out; have hnc19 := NB157_166.out; have hnb20 := NB166_158.out; have hnc20 := NB158_166.out; have hcz21_0 : w17.cell? ⟨gb166, 0, none⟩ = some (.slice none 0 0) := (blk_cell BK166.out 0).trans rfl; have hcz21_1 : w17.cell? ⟨gb166, 1, none⟩ = some (.slice none 0 0) := (blk_cell BK166.out 1).trans rfl; have hfz21_0 := blk_frozen BK166.out 0; have hfz21_1 := blk_frozen BK166.out 1; obtain ⟨Ao22, co22, eo22⟩ := Kd.R_slice HO165.out; subst eo22))
 have n0_ : Aside0 (Kd.R (Kd.int .i64) 3 ((w17.setCell ⟨gb166, 0, none⟩ (.slice Ao18 t160.length co18)).setCell ⟨gb166, 1, none⟩ (.slice Ao22 t163.length co22)) w.heap.size (fun k_ => some k_ ≠ (.slice Ao22 t163.length co22 : Value).ownBlock) (.slice Ao18 t160.length co18) t160) := ⟨by (with_reducible repeat (first | apply Kd.R_alloc | apply Kd.R_drewN | apply Kd.R_drew)); exact Kd.R_mono (Kd.R_far (p := ⟨gb166, 1, none⟩) (Kd.R_far (p := ⟨gb166, 0, none⟩) (Kd.R_types HO162.out BK166.out (by decide)) (fun _ hk => hk.2) (.slice Ao18 t160.length co18)) (fun _ hk => hk.2) (.slice Ao22 t163.length co22)) (fun _ hk => hk.1)⟩
 have n1_ : Aside0 (Kd.R (Kd.int .i64) 3 ((w17.setCell ⟨gb166, 0, none⟩ (.slice Ao18 t160.length co18)).setCell ⟨gb166, 1, none⟩ (.slice Ao22 t163.length co22)) w.heap.size (fun k_ => some k_ ≠ (.slice Ao18 t160.length co18 : Value).ownBlock) (.slice Ao22 t163.length co22) t163) := ⟨by (with_reducible repeat (first | apply Kd.R_alloc | apply Kd.R_drewN | apply Kd.R_drew)); exact Kd.R_mono (Kd.R_far (p := ⟨gb166, 1, none⟩) (Kd.R_far (p := ⟨gb166, 0, none⟩) (Kd.R_types HO165.out BK166.out (by decide)) (fun _ hk => hk.2) (.slice Ao18 t160.length co18)) (fun _ hk => hk.2) (.slice Ao22 t163.length co22)) (fun _ hk => hk.1)⟩
 have n2_ : Aside0 (((w17.setCell ⟨gb166, 0, none⟩ (.slice Ao18 t160.length co18)).setCell ⟨gb166, 1, none⟩ (.slice Ao22 t163.length co22)).heap[gb157]? = some (.cells #[.int .i64 a0_0, .int .i64 a0_1, .slice A0_2 l0_2.length c0_2] 30 (0, 0))) := ⟨by (with_reducible repeat (first | refine blk_drewN ?_ _ | refine blk_drew ?_ | refine blk_alloc ?_ _)); refine blk_far ?_ NB157_166.out _; (with_reducible repeat (first | refine blk_drewN ?_ _ | refine blk_drew ?_ | refine blk_alloc ?_ _)); refine blk_far ?_ NB157_166.out _; first | exact BK157.out | ((with_reducible repeat (first | refine blk_drewN ?_ _ | refine blk_drew ?_ | refine blk_alloc ?_ _)); exact BK157.out)⟩
 have n3_ : Aside0 (((w17.setCell ⟨gb166, 0, none⟩ (.slice Ao18 t160.length co18)).setCell ⟨gb166, 1, none⟩ (.slice Ao22 t163.length co22)).heap[gb158]? = some (.cells #[.int .i64 a1_0, .int .i64 a1_1] 32 (0, 0))) := ⟨by (with_reducible repeat (first | refine blk_drewN ?_ _ | refine blk_drew ?_ | refine blk_alloc ?_ _)); refine blk_far ?_ NB158_166.out _; (with_reducible repeat (first | refine blk_drewN ?_ _ | refine blk_drew ?_ | refine blk_alloc ?_ _)); refine blk_far ?_ NB158_166.out _; first | exact BK158.out | ((with_reducible repeat (first | refine blk_drewN ?_ _ | refine blk_drew ?_ | refine blk_alloc ?_ _)); exact BK158.out)⟩
 have n4_ : Aside0 (((w17.setCell ⟨gb166, 0, none⟩ (.slice Ao18 t160.length co18)).setCell ⟨gb166, 1, none⟩ (.slice Ao22 t163.length co22)).heap[gb166]? = some (.cells #[.slice Ao18 t160.length co18, .slice Ao22 t163.length co22] 45 (0, 0))) := ⟨by (with_reducible repeat (first | refine blk_drewN ?_ _ | refine blk_drew ?_ | refine blk_alloc ?_ _)); refine blk_put (cs := #[.slice Ao18 t160.length co18, .slice none 0 0]) ?_ 1 _ rfl; (with_reducible repeat (first | refine blk_drewN ?_ _ | refine blk_drew ?_ | refine blk_alloc ?_ _)); refine blk_put (cs := #[.slice none 0 0, .slice none 0 0]) ?_ 0 _ rfl; first | exact BK166.out | ((with_reducible repeat (first | refine blk_drewN ?_ _ | refine blk_drew ?_ | refine blk_alloc ?_ _)); exact BK166.out)⟩
 have n5_ : Aside0 (Below w.heap.size w ((w17.setCell ⟨gb166, 0, none⟩ (.slice Ao18 t160.length co18)).setCell ⟨gb166, 1, none⟩ (.slice Ao22 t163.length co22))) := ⟨zi14⟩
 (try clear HO162)
 (try clear HO165)
 (try clear BK157)
 (try clear BK158)
 (try clear BK166)
 (try clear HB)
 generalize ((w17.setCell ⟨gb166, 0, none⟩ (.slice Ao18 t160.length co18)).setCell ⟨gb166, 1, none⟩ (.slice Ao22 t163.length co22)) = w23 at n0_ n1_ n2_ n3_ n4_ n5_ ⊢
 have HO162 := n0_
 have HO165 := n1_
 have BK157 := n2_
 have BK158 := n3_
 have BK166 := n4_
 have HB := n5_
 clear n0_ n1_ n2_ n3_ n4_ n5_
 have n0_ := Aside0.mk (Kd.R_drew HO162.out)
 have n1_ := Aside0.mk (Kd.R_drew HO165.out)
 have n2_ := Aside0.mk (blk_drew BK157.out)
 have n3_ := Aside0.mk (blk_drew BK158.out)
 have n4_ := Aside0.mk (blk_drew BK166.out)
 have n5_ := Aside0.mk (below_drew1 HB.out)
 clear HO162
 clear HO165
 clear BK157
 clear BK158
 clear BK166
 clear HB
 have HO162 := n0_
 have HO165 := n1_
 have BK157 := n2_
 have BK158 := n3_
 have BK166 := n4_
 have HB := n5_
 clear n0_ n1_ n2_ n3_ n4_ n5_
 refine start_ (n := 9) (S := fun w' => w'.cell? ⟨gb166, 0, none⟩ = some (.slice Ao18 t160.length co18) ∧ w'.cell? ⟨gb166, 1, none⟩ = some (.slice Ao22 t163.length co22)) (ds := []) #[false, false, false, false, false, false, false, false, false] (by kernel_rfl) rfl rfl ⟨(blk_cell BK166.out 0).trans rfl, (blk_cell BK166.out 1).trans rfl⟩ (fun hHeld => ?_); refine with_tabW spec_MostPairs.tab4 spec_MostPairs.bits4 (fun HT_ HW_ => ?_)
 generalize w23.drew = w24 at HO162 HO165 BK157 BK158 BK166 HB hHeld ⊢
 refine pure_ (i := 1) (N := some 15) (v := ?_) (a' := ?_) #[false, true, false, false, false, false, false, false, false] rfl rfl (any_of HT_.out (by kernel_rfl)) (fun _ _ _ h => h) (Or.inl ⟨by rfl, ?_⟩) ?_ ?_
 rotate_left
 ·intro w'
  go_simp
  with_reducible rfl
 rotate_left
 ·simp only [Act.put, List.setIfInBounds_toArray, List.set_cons_zero, List.set_cons_succ, i64_w, i32_w]
  rfl
 refine take_ (i := 0) (N := some 14) (v := ?_) (a' := ?_) #[true, true, false, false, false, false, false, false, false] rfl rfl (take_ofW HT_.out HW_.out (by kernel_rfl)) (fun _ _ _ h => h) (Or.inl ⟨by rfl, ?_⟩) hHeld ?_ ?_
 rotate_left
 ·rintro w' ⟨s0, s1⟩
  go_simp
  with_reducible rfl
 rotate_left
 ·simp only [Act.put, List.setIfInBounds_toArray, List.set_cons_zero, List.set_cons_succ, i64_w, i32_w]
  rfl
 refine take_ (i := 2) (N := some 16) (v := ?_) (a' := ?_) #[true, true, true, false, false, false, false, false, false] rfl rfl (take_ofW HT_.out HW_.out (by kernel_rfl)) (fun _ _ _ h => h) (Or.inl ⟨by rfl, ?_⟩) hHeld ?_ ?_
 rotate_left
 ·rintro w' ⟨s0, s1⟩
  go_simp
  with_reducible rfl
 rotate_left
 ·simp only [Act.put, List.setIfInBounds_toArray, List.set_cons_zero, List.set_cons_succ, i64_w, i32_w]
  rfl
 refine pure_ (i := 3) (N := some 17) (v := ?_) (a' := ?_) #[true, true, true, true, false, false, false, false, false] rfl rfl (any_of HT_.out (by kernel_rfl)) (fun _ _ _ h => h) (Or.inl ⟨by rfl, ?_⟩) ?_ ?_
 rotate_left
 ·intro w'
  go_simp
  with_reducible rfl
 rotate_left
 ·simp only [Act.put, List.setIfInBounds_toArray, List.set_cons_zero, List.set_cons_succ, i64_w, i32_w]
  rfl
 refine pure_ (i := 4) (N := some 18) (v := ?_) (a' := ?_) #[true, true, true, true, true, false, false, false, false] rfl rfl (any_of HT_.out (by kernel_rfl)) (fun _ _ _ h => h) (Or.inl ⟨by rfl, ?_⟩) ?_ ?_
 rotate_left
 ·intro w'
  go_simp
  with_reducible rfl
 rotate_left
 ·simp only [Act.put, List.setIfInBounds_toArray, List.set_cons_zero, List.set_cons_succ, i64_w, i32_w]
  rfl
 refine pure_ (i := 5) (N := some 19) (v := ?_) (a' := ?_) #[true, true, true, true, true, true, false, false, false] rfl rfl (any_of HT_.out (by kernel_rfl)) (fun _ _ _ h => h) (Or.inl ⟨by rfl, ?_⟩) ?_ ?_
 rotate_left
 ·intro w'
  go_simp
  with_reducible rfl
 rotate_left
 ·simp only [Act.put, List.setIfInBounds_toArray, List.set_cons_zero, List.set_cons_succ, i64_w, i32_w]
  rfl
 refine one_ (i := 6) (N := some 20) #[true, true, true, true, true, true, true, false, false] rfl rfl (one_of HT_.out (by kernel_rfl)) (by decide) (fun K hK => ?_)
 refine goes_ Try.func20 (by kernel_rfl) rfl #[.agg #[.slice Ao18 t160.length co18, .slice Ao22 t163.length co22], .int .i64 (wrap64 ((ji6) - 1))] (by rfl) rfl rfl (by (try simp only [List.map_toArray, List.map_cons, List.map_nil]); first | done | (simp only [hji6]; rfl) | rfl | (simp only [List.length_drop, List.length_take]; rfl)) ?_
 with_reducible refine (spec_guPairs.calls k _ _ t160 _ _ t163 (wrap64 ((ji6) - 1)) t167 _ ?side1 ?side2 ?side3 ?side4 A7.out).mono ?_
 (case side1 => repeat (first | exact (Kd.R_reads' HO162.out).2.2 | (with_reducible refine Kd.C_alloc ?_ _) | (with_reducible refine Kd.C_drewN ?_ _) | (with_reducible refine Kd.C_drew ?_)))
 (case side2 => exact (Kd.R_reads' HO162.out).2.1)
 (case side3 => repeat (first | exact (Kd.R_reads' HO165.out).2.2 | (with_reducible refine Kd.C_alloc ?_ _) | (with_reducible refine Kd.C_drewN ?_ _) | (with_reducible refine Kd.C_drew ?_)))
 (case side4 => exact (Kd.R_reads' HO165.out).2.1)
 rintro e w25 ⟨rfl, hb⟩
 refine ⟨_, rfl, ?_⟩
 have n0_ := Aside0.mk (Kd.R_below (by first | exact HO162.out | ((with_reducible repeat (first | apply Kd.R_alloc | apply Kd.R_drewN | apply Kd.R_drew)); exact HO162.out)) hb)
 have n1_ := Aside0.mk (Kd.R_below (by first | exact HO165.out | ((with_reducible repeat (first | apply Kd.R_alloc | apply Kd.R_drewN | apply Kd.R_drew)); exact HO165.out)) hb)
 have n2_ := Aside0.mk (blk_below (g := gb157) (o := .cells #[.int .i64 a0_0, .int .i64 a0_1, .slice A0_2 l0_2.length c0_2] 30 (0, 0)) zi6 hb)
 have n3_ := Aside0.mk (blk_below (g := gb158) (o := .cells #[.int .i64 a1_0, .int .i64 a1_1] 32 (0, 0)) zi13 hb)
 have n4_ := Aside0.mk (blk_below (g := gb166) (o := .cells #[.slice Ao18 t160.length co18, .slice Ao22 t163.length co22] 45 (0, 0)) (by first | exact BK166.out | ((with_reducible repeat (first | refine blk_drewN ?_ _ | refine blk_drew ?_ | refine blk_alloc ?_ _)); exact BK166.out)) hb)
 have n5_ := Aside0.mk (below_step zi14 hb)
 clear HO162
 clear HO165
 clear BK157
 clear BK158
 clear BK166
 clear HB
 have HO162 := n0_
 have HO165 := n1_
 have BK157 := n2_
 have BK158 := n3_
 have BK166 := n4_
 have HB := n5_
 clear n0_ n1_ n2_ n3_ n4_ n5_
 (try clear hb)
 (try clear hb2)
 (try clear hk)
 (try clear hi)
 (try clear hna_)
 (try clear hnb_)
 refine hK.out _ _ ⟨(blk_cell BK166.out 0).trans rfl, (blk_cell BK166.out 1).trans rfl⟩ (fun hHeld => ?_)
 clear hK K
 refine norm_ (a' := ?_) ?_ ?_
 rotate_left
 ·show Act.put _ (some 20) _ = _
  simp only [Act.put, List.setIfInBounds_toArray, List.set_cons_zero, List.set_cons_succ, i64_w, i32_w]
  rfl
 refine pure_ (i := 7) (N := some 4) (v := ?_) (a' := ?_) #[true, true, true, true, true, true, true, true, false] rfl rfl (any_of HT_.out (by kernel_rfl)) (fun _ _ _ h => h) (Or.inl ⟨by rfl, ?_⟩) ?_ ?_
 rotate_left
 ·intro w'
  go_simp
  with_reducible rfl
 rotate_left
 ·simp only [Act.put, List.setIfInBounds_toArray, List.set_cons_zero, List.set_cons_succ, i64_w, i32_w]
  rfl
 refine pure_ (i := 8) (N := some 5) (v := ?_) (a' := ?_) #[true, true, true, true, true, true, true, true, true] rfl rfl (any_of HT_.out (by kernel_rfl)) (fun _ _ _ h => h) (Or.inl ⟨by rfl, ?_⟩) ?_ ?_
 rotate_left
 ·intro w'
  go_simp
  with_reducible rfl
 rotate_left
 ·simp only [Act.put, List.setIfInBounds_toArray, List.set_cons_zero, List.set_cons_succ, i64_w, i32_w]
  rfl
 refine done_ (done_of HT_.out (by kernel_rfl)) ?_
 try go_wp2
 go_ret2
 exact ⟨by first | rfl | (simp [errW_none, errW_some] <;> rfl) | (simp only [← hji6]; first | rfl | (simp [errW_none, errW_some] <;> rfl)) | (simp [*, errW_none, errW_some] <;> rfl), zi14⟩

/-! ### impl_tourGraph: function 22 -/
def impl_tourGraph.f (k : Nat) (a0_0 : Int) (a0_1 : Int) (l0_2 : List Int) (a1_0 : Int) (a1_1 : Int) (a2 : Int) : Option (List Int × (List (List Int)) × Bool) := (impl_graphOf.f k a0_0 a0_1 l0_2 a1_0 a1_1).bind fun bt235 => (if bt235.2.2 = true then (if (bt235.1.length : Int) > a2 then (some (([] : List Int), ([] : List (List Int)), false)) else (some (bt235.1, bt235.2.1, true))) else (some (([] : List Int), ([] : List (List Int)), false)))
set_option maxHeartbeats 8000000 in
set_option maxRecDepth 100000 in
theorem impl_tourGraph.calls (k : Nat) (a0_0 : Int) (a0_1 : Int) (A0_2 : Option Addr) (c0_2 : Nat) (l0_2 : List Int) (a1_0 : Int) (a1_1 : Int) (a2 : Int) (r1 : List Int) (r2 : List (List Int)) (r3 : Bool) (w : World) (hr0_2 : Kd.C (Kd.int .i64) w A0_2 l0_2.length l0_2) (hc0_2 : l0_2.length ≤ c0_2) (h : impl_tourGraph.f k a0_0 a0_1 l0_2 a1_0 a1_1 a2 = some (r1, r2, r3)) :
  Calls Try.prog 22 #[.agg #[.int .i64 a0_0, .int .i64 a0_1, .slice A0_2 l0_2.length c0_2], .agg #[.int .i64 a1_0, .int .i64 a1_1], .int .i64 a2] w fun e w' => ∃ v0_ v1_ : Value, ∃ pv_ : Value, e = .returned (.tuple #[pv_, .bool r3]) ∧ GPT r3 pv_ w w' #[.int .i64 a0_0, .int .i64 a0_1, .slice A0_2 l0_2.length c0_2, .int .i64 a1_0, .int .i64 a1_1, v0_, v1_] ∧ Kd.R (Kd.int .i64) 3 w' w.heap.size (fun _ => True) v0_ r1 ∧ Kd.S (Kd.slice 3 (Kd.int .i64)) 22 w' w.heap.size (fun k_ => some k_ ≠ (v0_ : Value).ownBlock) v1_ r2 ∧ Below w.heap.size w w' := by
 have hu30 := Try.underlying30
 have hu32 := Try.underlying32
 have HR0_2 := Aside0.mk hr0_2
 have HC0_2 := Aside0.mk hc0_2
 clear hr0_2 hc0_2
 have HB := Aside0.mk (Below.refl w.heap.size w)
 have H : ((impl_graphOf.f k a0_0 a0_1 l0_2 a1_0 a1_1).bind fun bt235 => (if bt235.2.2 = true then (if (bt235.1.length : Int) > a2 then (some (([] : List Int), ([] : List (List Int)), false)) else (some (bt235.1, bt235.2.1, true))) else (some (([] : List Int), ([] : List (List Int)), false)))) = some (r1, r2, r3) := h
 clear h
 replace H := Option.bind_eq_some_iff.mp H
 obtain ⟨⟨t235, t238, t243⟩, A40, H⟩ := H
 replace H : (if t243 = true then (if (t235.length : Int) > a2 then (some (([] : List Int), ([] : List (List Int)), false)) else (some (t235, t238, true))) else (some (([] : List Int), ([] : List (List Int)), false))) = some (r1, r2, r3) := H
 have A4 := Aside0.mk A40
 clear A40
 by_cases c5 : t243 = true
 rotate_left
 ·replace c5 := Bool.eq_false_iff.mpr c5
  subst c5
  have H1 : (some (([] : List Int), ([] : List (List Int)), false)) = some (r1, r2, r3) := by rw [if_neg (show ¬ (false = true) by decide)] at H; exact H
  clear H
  have H := H1
  clear H1
  simp only [Option.some.injEq, Prod.mk.injEq] at H
  obtain ⟨rfl, rfl, rfl⟩ := H
  go_enter Try.func22, Try.ntmps22
  go_wp2_with (first | ((with_reducible refine gate_dst (N := 3) rfl ?_); (try (refine gate_guard (by rfl) ?_; dsimp only)); refine box_event ?hg (N := 3) ?hd (cs := #[.int .i64 a0_0, .int .i64 a0_1, .slice A0_2 l0_2.length c0_2]) (t := 30) ?hr ?_; (case hd => rfl); (case hg => rfl); (case hr => first | (go_simp; done) | (go_simp; rfl)); intro gb233 hg w27 hbox hb; have n0_ := Aside0.mk (below_step zi2 hb); have n1_ := Aside0.mk (hbox); have n2_ := Aside0.mk ((zi22 : w.heap.size ≤ gb233)); have n3_ := Aside0.mk ((zi22 : w.heap.size ≤ gb233)); clear HB; have HB := n0_; have BK233 := n1_; have GW233 := n2_; have GE233 := n3_; clear n0_ n1_ n2_ n3_; clear hb hbox hg) | ((with_reducible refine gate_dst (N := 4) rfl ?_); (try (refine gate_guard (by rfl) ?_; dsimp only)); refine box_event ?hg (N := 4) ?hd (cs := #[.int .i64 a1_0, .int .i64 a1_1]) (t := 32) ?hr ?_; (case hd => rfl); (case hg => rfl); (case hr => first | (go_simp; done) | (go_simp; rfl)); intro gb234 hg w28 hbox hb; have n0_ := Aside0.mk (blk_below (g := gb233) (o := .cells #[.int .i64 a0_0, .int .i64 a0_1, .slice A0_2 l0_2.length c0_2] 30 (0, 0)) zi4 hb); have n1_ := Aside0.mk (below_step zi7 hb); have n2_ := Aside0.mk (hbox); have n3_ := Aside0.mk ((zi27 : w.heap.size ≤ gb234)); have n4_ := Aside0.mk ((zi27 : w.heap.size ≤ gb234)); have n5_ := Aside0.mk ((zi23 : gb233 ≠ gb234)); have n6_ := Aside0.mk ((zi25 : gb234 ≠ gb233)); clear BK233; clear HB; have BK233 := n0_; have HB := n1_; have BK234 := n2_; have GW234 := n3_; have GE234 := n4_; have NB233_234 := n5_; have NB234_233 := n6_; clear n0_ n1_ n2_ n3_ n4_ n5_ n6_; clear hb hbox hg; have hnb29 := NB233_234.out; have hnc29 := NB234_233.out; have hcz30_0 : w28.cell? ⟨gb233, 0, none⟩ = some (.int .i64 a0_0) := (blk_cell BK233.out 0).trans rfl; have hcz30_1 : w28.cell? ⟨gb233, 1, none⟩ = some (.int .i64 a0_1) := (blk_cell BK233.out 1).trans rfl; have hcz30_2 : w28.cell? ⟨gb233, 2, none⟩ = some (.slice A0_2 l0_2.length c0_2) := (blk_cell BK233.out 2).trans rfl; have hfz30_0 := blk_frozen BK233.out 0; have hfz30_1 := blk_frozen BK233.out 1; have hfz30_2 := blk_frozen BK233.out 2; have hcz31_0 : w28.cell? ⟨gb234, 0, none⟩ = some (.int .i64 a1_0) := (blk_cell BK234.out 0).trans rfl; have hcz31_1 : w28.cell? ⟨gb234, 1, none⟩ = some (.int .i64 a1_1) := (blk_cell BK234.out 1).trans rfl; have hfz31_0 := blk_frozen BK234.out 0; have hfz31_1 := blk_frozen BK234.out 1) | ((with_reducible refine gate_callee (f := 28) rfl ?_); refine goesL_ (some 13) rfl rfl Try.func28 (by kernel_rfl) rfl #[.agg #[.int .i64 a0_0, .int .i64 a0_1, .slice A0_2 l0_2.length c0_2], .agg #[.int .i64 a1_0, .int .i64 a1_1]] rfl zi10 ?_; (with_reducible refine (impl_graphOf.calls k a0_0 a0_1 _ _ l0_2 a1_0 a1_1 t235 t238 false _ ?side1 ?side2 A4.out).mono ?_); (case side1 => exact zi9); (case side2 => exact HC0_2.out); rintro e w32 ⟨v236, v239, pv242, rfl, hgp, ho0, ho1, hb⟩; refine ⟨_, rfl, ?_⟩; obtain rfl := hgp.2 rfl; have n0_ := Aside0.mk (Kd.R_lower ho0 (below_size zi1)); have n1_ := Aside0.mk (Kd.S_lower ho1 (below_size zi1)); have n2_ := Aside0.mk (blk_below (g := gb233) (o := .cells #[.int .i64 a0_0, .int .i64 a0_1, .slice A0_2 l0_2.length c0_2] 30 (0, 0)) zi4 hb); have n3_ := Aside0.mk (blk_below (g := gb234) (o := .cells #[.int .i64 a1_0, .int .i64 a1_1] 32 (0, 0)) zi12 hb); have n4_ := Aside0.mk (below_step zi1 hb); clear BK233; clear BK234; clear HB; have HO237 := n0_; have HO240 := n1_; have BK233 := n2_; have BK234 := n3_; have HB := n4_; clear n0_ n1_ n2_ n3_ n4_; (try clear hb); (try clear hb2); (try clear hk); (try clear hi); (try clear ho0); (try clear ho1); (try clear hgp); (try clear hbox); (try clear hge); (try clear hna_); (try clear hnb_)))
  go_ret2
  exact ⟨_, _, _, zi16, ⟨(fun h_ => by cases h_), fun _ => rfl⟩, zi21, zi20, zi1⟩
 subst c5
 have H1 : (if (t235.length : Int) > a2 then (some (([] : List Int), ([] : List (List Int)), false)) else (some (t235, t238, true))) = some (r1, r2, r3) := by rw [if_pos rfl] at H; exact H
 clear H
 have H := H1
 clear H1
 by_cases c6 : (t235.length : Int) > a2
 ·rw [if_pos c6] at H
  have c6b0 : decide (a2 < (t235.length : Int)) = true := decide_eq_true c6
  clear c6
  simp only [Option.some.injEq, Prod.mk.injEq] at H
  obtain ⟨rfl, rfl, rfl⟩ := H
  go_enter Try.func22, Try.ntmps22
  go_wp2_with (first | ((with_reducible refine gate_dst (N := 3) rfl ?_); (try (refine gate_guard (by rfl) ?_; dsimp only)); refine box_event ?hg (N := 3) ?hd (cs := #[.int .i64 a0_0, .int .i64 a0_1, .slice A0_2 l0_2.length c0_2]) (t := 30) ?hr ?_; (case hd => rfl); (case hg => rfl); (case hr => first | (go_simp; done) | (go_simp; rfl)); intro gb233 hg w7 hbox hb; have n0_ := Aside0.mk (below_step zi2 hb); have n1_ := Aside0.mk (hbox); have n2_ := Aside0.mk ((zi22 : w.heap.size ≤ gb233)); have n3_ := Aside0.mk ((zi22 : w.heap.size ≤ gb233)); clear HB; have HB := n0_; have BK233 := n1_; have GW233 := n2_; have GE233 := n3_; clear n0_ n1_ n2_ n3_; clear hb hbox hg) | ((with_reducible refine gate_dst (N := 4) rfl ?_); (try (refine gate_guard (by rfl) ?_; dsimp only)); refine box_event ?hg (N := 4) ?hd (cs := #[.int .i64 a1_0, .int .i64 a1_1]) (t := 32) ?hr ?_; (case hd => rfl); (case hg => rfl); (case hr => first | (go_simp; done) | (go_simp; rfl)); intro gb234 hg w8 hbox hb; have n0_ := Aside0.mk (blk_below (g := gb233) (o := .cells #[.int .i64 a0_0, .int .i64 a0_1, .slice A0_2 l0_2.length c0_2] 30 (0, 0)) zi4 hb); have n1_ := Aside0.mk (below_step zi7 hb); have n2_ := Aside0.mk (hbox); have n3_ := Aside0.mk ((zi27 : w.heap.size ≤ gb234)); have n4_ := Aside0.mk ((zi27 : w.heap.size ≤ gb234)); have n5_ := Aside0.mk ((zi23 : gb233 ≠ gb234)); have n6_ := Aside0.mk ((zi25 : gb234 ≠ gb233)); clear BK233; clear HB; have BK233 := n0_; have HB := n1_; have BK234 := n2_; have GW234 := n3_; have GE234 := n4_; have NB233_234 := n5_; have NB234_233 := n6_; clear n0_ n1_ n2_ n3_ n4_ n5_ n6_; clear hb hbox hg; have hnb9 := NB233_234.out; have hnc9 := NB234_233.out; have hcz10_0 : w8.cell? ⟨gb233, 0, none⟩ = some (.int .i64 a0_0) := (blk_cell BK233.out 0).trans rfl; have hcz10_1 : w8.cell? ⟨gb233, 1, none⟩ = some (.int .i64 a0_1) := (blk_cell BK233.out 1).trans rfl; have hcz10_2 : w8.cell? ⟨gb233, 2, none⟩ = some (.slice A0_2 l0_2.length c0_2) := (blk_cell BK233.out 2).trans rfl; have hfz10_0 := blk_frozen BK233.out 0; have hfz10_1 := blk_frozen BK233.out 1; have hfz10_2 := blk_frozen BK233.out 2; have hcz11_0 : w8.cell? ⟨gb234, 0, none⟩ = some (.int .i64 a1_0) := (blk_cell BK234.out 0).trans rfl; have hcz11_1 : w8.cell? ⟨gb234, 1, none⟩ = some (.int .i64 a1_1) := (blk_cell BK234.out 1).trans rfl; have hfz11_0 := blk_frozen BK234.out 0; have hfz11_1 := blk_frozen BK234.out 1) | ((with_reducible refine gate_callee (f := 28) rfl ?_); refine goesL_ (some 13) rfl rfl Try.func28 (by kernel_rfl) rfl #[.agg #[.int .i64 a0_0, .int .i64 a0_1, .slice A0_2 l0_2.length c0_2], .agg #[.int .i64 a1_0, .int .i64 a1_1]] rfl zi10 ?_; (with_reducible refine (impl_graphOf.calls k a0_0 a0_1 _ _ l0_2 a1_0 a1_1 t235 t238 true _ ?side1 ?side2 A4.out).mono ?_); (case side1 => exact zi9); (case side2 => exact HC0_2.out); rintro e w12 ⟨v236, v239, pv242, rfl, hgp, ho0, ho1, hb⟩; refine ⟨_, rfl, ?_⟩; obtain ⟨gb241, rfl, hbox, hge⟩ := hgp.1 rfl; have n0_ := Aside0.mk (Kd.R_lower ho0 (below_size zi1)); have n1_ := Aside0.mk (Kd.S_lower ho1 (below_size zi1)); have n2_ := Aside0.mk (blk_below (g := gb233) (o := .cells #[.int .i64 a0_0, .int .i64 a0_1, .slice A0_2 l0_2.length c0_2] 30 (0, 0)) zi4 hb); have n3_ := Aside0.mk (blk_below (g := gb234) (o := .cells #[.int .i64 a1_0, .int .i64 a1_1] 32 (0, 0)) zi12 hb); have n4_ := Aside0.mk (hbox); have n5_ := Aside0.mk ((Nat.le_trans (by exact (below_size zi1)) hge : w.heap.size ≤ gb241)); have n6_ := Aside0.mk ((Nat.le_trans (by exact (below_size zi1)) hge : w.heap.size ≤ gb241)); have n7_ := Aside0.mk ((Nat.ne_of_lt (Nat.lt_of_lt_of_le (blk_lt (g := gb233) (o := .cells #[.int .i64 a0_0, .int .i64 a0_1, .slice A0_2 l0_2.length c0_2] 30 (0, 0)) zi4) hge) : gb233 ≠ gb241)); have n8_ := Aside0.mk ((Nat.ne_of_gt (Nat.lt_of_lt_of_le (blk_lt (g := gb233) (o := .cells #[.int .i64 a0_0, .int .i64 a0_1, .slice A0_2 l0_2.length c0_2] 30 (0, 0)) zi4) hge) : gb241 ≠ gb233)); have n9_ := Aside0.mk ((Nat.ne_of_lt (Nat.lt_of_lt_of_le (blk_lt (g := gb234) (o := .cells #[.int .i64 a1_0, .int .i64 a1_1] 32 (0, 0)) zi12) hge) : gb234 ≠ gb241)); have n10_ := Aside0.mk ((Nat.ne_of_gt (Nat.lt_of_lt_of_le (blk_lt (g := gb234) (o := .cells #[.int .i64 a1_0, .int .i64 a1_1] 32 (0, 0)) zi12) hge) : gb241 ≠ gb234)); have n11_ := Aside0.mk (below_step zi1 hb); clear BK233; clear BK234; clear HB; have HO237 := n0_; have HO240 := n1_; have BK233 := n2_; have BK234 := n3_; have BK241 := n4_; have GW241 := n5_; have GE241 := n6_; have NB233_241 := n7_; have NB241_233 := n8_; have NB234_241 := n9_; have NB241_234 := n10_; have HB := n11_; clear n0_ n1_ n2_ n3_ n4_ n5_ n6_ n7_ n8_ n9_ n10_ n11_; (try clear hb); (try clear hb2); (try clear hk); (try clear hi); (try clear ho0); (try clear ho1); (try clear hgp); (try clear hbox); (try clear hge); (try clear hna_); (try clear hnb_); have hnb13 := NB241_233.out; have hnc13 := NB233_241.out; have hnb14 := NB241_234.out; have hnc14 := NB234_241.out; have hcz15_0 : w12.cell? ⟨gb241, 0, none⟩ = some (.int .i64 a0_0) := (blk_cell BK241.out 0).trans rfl; have hcz15_1 : w12.cell? ⟨gb241, 1, none⟩ = some (.int .i64 a0_1) := (blk_cell BK241.out 1).trans rfl; have hcz15_2 : w12.cell? ⟨gb241, 2, none⟩ = some (.slice A0_2 l0_2.length c0_2) := (blk_cell BK241.out 2).trans rfl; have hcz15_3 : w12.cell? ⟨gb241, 3, none⟩ = some (.int .i64 a1_0) := (blk_cell BK241.out 3).trans rfl; have hcz15_4 : w12.cell? ⟨gb241, 4, none⟩ = some (.int .i64 a1_1) := (blk_cell BK241.out 4).trans rfl; have hcz15_5 : w12.cell? ⟨gb241, 5, none⟩ = some (v236) := (blk_cell BK241.out 5).trans rfl; have hcz15_6 : w12.cell? ⟨gb241, 6, none⟩ = some (v239) := (blk_cell BK241.out 6).trans rfl; have hfz15_0 := blk_frozen BK241.out 0; have hfz15_1 := blk_frozen BK241.out 1; have hfz15_2 := blk_frozen BK241.out 2; have hfz15_3 := blk_frozen BK241.out 3; have hfz15_4 := blk_frozen BK241.out 4; have hfz15_5 := blk_frozen BK241.out 5; have hfz15_6 := blk_frozen BK241.out 6; obtain ⟨Ao16, co16, eo16⟩ := Kd.R_slice HO237.out; subst eo16))
  go_ret2
  exact ⟨_, _, _, zi16, ⟨(fun h_ => by cases h_), fun _ => rfl⟩, zi21, zi20, zi17⟩
 rw [if_neg c6] at H
 have c6b0 : decide (a2 < (t235.length : Int)) = false := decide_eq_false c6
 clear c6
 simp only [Option.some.injEq, Prod.mk.injEq] at H
 obtain ⟨rfl, rfl, rfl⟩ := H
 go_enter Try.func22, Try.ntmps22
 go_wp2_with (first | ((with_reducible refine gate_dst (N := 3) rfl ?_); (try (refine gate_guard (by rfl) ?_; dsimp only)); refine box_event ?hg (N := 3) ?hd (cs := #[.int .i64 a0_0, .int .i64 a0_1, .slice A0_2 l0_2.length c0_2]) (t := 30) ?hr ?_; (case hd => rfl); (case hg => rfl); (case hr => first | (go_simp; done) | (go_simp; rfl)); intro gb233 hg w17 hbox hb; have n0_ := Aside0.mk (below_step zi2 hb); have n1_ := Aside0.mk (hbox); have n2_ := Aside0.mk ((zi22 : w.heap.size ≤ gb233)); have n3_ := Aside0.mk ((zi22 : w.heap.size ≤ gb233)); clear HB; have HB := n0_; have BK233 := n1_; have GW233 := n2_; have GE233 := n3_; clear n0_ n1_ n2_ n3_; clear hb hbox hg) | ((with_reducible refine gate_dst (N := 4) rfl ?_); (try (refine gate_guard (by rfl) ?_; dsimp only)); refine box_event ?hg (N := 4) ?hd (cs := #[.int .i64 a1_0, .int .i64 a1_1]) (t := 32) ?hr ?_; (case hd => rfl); (case hg => rfl); (case hr => first | (go_simp; done) | (go_simp; rfl)); intro gb234 hg w18 hbox hb; have n0_ := Aside0.mk (blk_below (g := gb233) (o := .cells #[.int .i64 a0_0, .int .i64 a0_1, .slice A0_2 l0_2.length c0_2] 30 (0, 0)) zi4 hb); have n1_ := Aside0.mk (below_step zi7 hb); have n2_ := Aside0.mk (hbox); have n3_ := Aside0.mk ((zi27 : w.heap.size ≤ gb234)); have n4_ := Aside0.mk ((zi27 : w.heap.size ≤ gb234)); have n5_ := Aside0.mk ((zi23 : gb233 ≠ gb234)); have n6_ := Aside0.mk ((zi25 : gb234 ≠ gb233)); clear BK233; clear HB; have BK233 := n0_; have HB := n1_; have BK234 := n2_; have GW234 := n3_; have GE234 := n4_; have NB233_234 := n5_; have NB234_233 := n6_; clear n0_ n1_ n2_ n3_ n4_ n5_ n6_; clear hb hbox hg; have hnb19 := NB233_234.out; have hnc19 := NB234_233.out; have hcz20_0 : w18.cell? ⟨gb233, 0, none⟩ = some (.int .i64 a0_0) := (blk_cell BK233.out 0).trans rfl; have hcz20_1 : w18.cell? ⟨gb233, 1, none⟩ = some (.int .i64 a0_1) := (blk_cell BK233.out 1).trans rfl; have hcz20_2 : w18.cell? ⟨gb233, 2, none⟩ = some (.slice A0_2 l0_2.length c0_2) := (blk_cell BK233.out 2).trans rfl; have hfz20_0 := blk_frozen BK233.out 0; have hfz20_1 := blk_frozen BK233.out 1; have hfz20_2 := blk_frozen BK233.out 2; have hcz21_0 : w18.cell? ⟨gb234, 0, none⟩ = some (.int .i64 a1_0) := (blk_cell BK234.out 0).trans rfl; have hcz21_1 : w18.cell? ⟨gb234, 1, none⟩ = some (.int .i64 a1_1) := (blk_cell BK234.out 1).trans rfl; have hfz21_0 := blk_frozen BK234.out 0; have hfz21_1 := blk_frozen BK234.out 1) | ((with_reducible refine gate_callee (f := 28) rfl ?_); refine goesL_ (some 13) rfl rfl Try.func28 (by kernel_rfl) rfl #[.agg #[.int .i64 a0_0, .int .i64 a0_1, .slice A0_2 l0_2.length c0_2], .agg #[.int .i64 a1_0, .int .i64 a1_1]] rfl zi10 ?_; (with_reducible refine (impl_graphOf.calls k a0_0 a0_1 _ _ l0_2 a1_0 a1_1 t235 t238 true _ ?side1 ?side2 A4.out).mono ?_); (case side1 => exact zi9); (case side2 => exact HC0_2.out); rintro e w22 ⟨v236, v239, pv242, rfl, hgp, ho0, ho1, hb⟩; refine ⟨_, rfl, ?_⟩; obtain ⟨gb241, rfl, hbox, hge⟩ := hgp.1 rfl; have n0_ := Aside0.mk (Kd.R_lower ho0 (below_size zi1)); have n1_ := Aside0.mk (Kd.S_lower ho1 (below_size zi1)); have n2_ := Aside0.mk (blk_below (g := gb233) (o := .cells #[.int .i64 a0_0, .int .i64 a0_1, .slice A0_2 l0_2.length c0_2] 30 (0, 0)) zi4 hb); have n3_ := Aside0.mk (blk_below (g := gb234) (o := .cells #[.int .i64 a1_0, .int .i64 a1_1] 32 (0, 0)) zi12 hb); have n4_ := Aside0.mk (hbox); have n5_ := Aside0.mk ((Nat.le_trans (by exact (below_size zi1)) hge : w.heap.size ≤ gb241)); have n6_ := Aside0.mk ((Nat.le_trans (by exact (below_size zi1)) hge : w.heap.size ≤ gb241)); have n7_ := Aside0.mk ((Nat.ne_of_lt (Nat.lt_of_lt_of_le (blk_lt (g := gb233) (o := .cells #[.int .i64 a0_0, .int .i64 a0_1, .slice A0_2 l0_2.length c0_2] 30 (0, 0)) zi4) hge) : gb233 ≠ gb241)); have n8_ := Aside0.mk ((Nat.ne_of_gt (Nat.lt_of_lt_of_le (blk_lt (g := gb233) (o := .cells #[.int .i64 a0_0, .int .i64 a0_1, .slice A0_2 l0_2.length c0_2] 30 (0, 0)) zi4) hge) : gb241 ≠ gb233)); have n9_ := Aside0.mk ((Nat.ne_of_lt (Nat.lt_of_lt_of_le (blk_lt (g := gb234) (o := .cells #[.int .i64 a1_0, .int .i64 a1_1] 32 (0, 0)) zi12) hge) : gb234 ≠ gb241)); have n10_ := Aside0.mk ((Nat.ne_of_gt (Nat.lt_of_lt_of_le (blk_lt (g := gb234) (o := .cells #[.int .i64 a1_0, .int .i64 a1_1] 32 (0, 0)) zi12) hge) : gb241 ≠ gb234)); have n11_ := Aside0.mk (below_step zi1 hb); clear BK233; clear BK234; clear HB; have HO237 := n0_; have HO240 := n1_; have BK233 := n2_; have BK234 := n3_; have BK241 := n4_; have GW241 := n5_; have GE241 := n6_; have NB233_241 := n7_; have NB241_233 := n8_; have NB234_241 := n9_; have NB241_234 := n10_; have HB := n11_; clear n0_ n1_ n2_ n3_ n4_ n5_ n6_ n7_ n8_ n9_ n10_ n11_; (try clear hb); (try clear hb2); (try clear hk); (try clear hi); (try clear ho0); (try clear ho1); (try clear hgp); (try clear hbox); (try clear hge); (try clear hna_); (try clear hnb_); have hnb23 := NB241_233.out; have hnc23 := NB233_241.out; have hnb24 := NB241_234.out; have hnc24 := NB234_241.out; have hcz25_0 : w22.cell? ⟨gb241, 0, none⟩ = some (.int .i64 a0_0) := (blk_cell BK241.out 0).trans rfl; have hcz25_1 : w22.cell? ⟨gb241, 1, none⟩ = some (.int .i64 a0_1) := (blk_cell BK241.out 1).trans rfl; have hcz25_2 : w22.cell? ⟨gb241, 2, none⟩ = some (.slice A0_2 l0_2.length c0_2) := (blk_cell BK241.out 2).trans rfl; have hcz25_3 : w22.cell? ⟨gb241, 3, none⟩ = some (.int .i64 a1_0) := (blk_cell BK241.out 3).trans rfl; have hcz25_4 : w22.cell? ⟨gb241, 4, none⟩ = some (.int .i64 a1_1) := (blk_cell BK241.out 4).trans rfl; have hcz25_5 : w22.cell? ⟨gb241, 5, none⟩ = some (v236) := (blk_cell BK241.out 5).trans rfl; have hcz25_6 : w22.cell? ⟨gb241, 6, none⟩ = some (v239) := (blk_cell BK241.out 6).trans rfl; have hfz25_0 := blk_frozen BK241.out 0; have hfz25_1 := blk_frozen BK241.out 1; have hfz25_2 := blk_frozen BK241.out 2; have hfz25_3 := blk_frozen BK241.out 3; have hfz25_4 := blk_frozen BK241.out 4; have hfz25_5 := blk_frozen BK241.out 5; have hfz25_6 := blk_frozen BK241.out 6; obtain ⟨Ao26, co26, eo26⟩ := Kd.R_slice HO237.out; subst eo26))
 go_ret2
 exact ⟨_, _, _, zi16, ⟨fun _ => ⟨_, rfl, by first | exact BK241.out | ((with_reducible repeat (first | refine blk_drewN ?_ _ | refine blk_drew ?_ | refine blk_alloc ?_ _)); exact BK241.out), GW241.out⟩, (fun h_ => by cases h_)⟩, by first | exact HO237.out | ((with_reducible repeat (first | apply Kd.R_alloc | apply Kd.R_drewN | apply Kd.R_drew)); exact HO237.out), by first | exact HO240.out | ((with_reducible repeat (first | apply Kd.S_alloc | apply Kd.S_drewN | apply Kd.S_drew)); exact HO240.out), zi17⟩

end Go.Proofs.Ytfjomkjngolboaa.Q

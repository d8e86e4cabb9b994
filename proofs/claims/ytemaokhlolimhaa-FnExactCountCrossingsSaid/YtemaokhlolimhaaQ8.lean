/- Written by a program of this session: functions of the translation as plain Lean functions, each with a proof that the call does what the plain function says; the conditions stand in each theorem. -/
import Derived.Test.YtemaokhlolimhaaQ0
import Derived.Test.YtemaokhlolimhaaQ6
namespace Go.Proofs.Ytemaokhlolimhaa.Q
open Go.RowKit Go.Proofs.YtemaokhlolimhaaW.PrintWords Go.Proofs.YtemaokhlolimhaaW.PrintLast Go.Proofs.YtemaokhlolimhaaW.PrintMore
attribute [local go_sem] max2_int min2_int max_two min_two max_three min_three max_four min_four   -- for this text's walks alone
set_option linter.unusedVariables false
set_option linter.unusedSimpArgs false

theorem zi1 {p : Prop} (h : p := by repeat (first | (with_reducible first | exact HB.out | apply below_alloc | apply pw_below_drewN | apply below_drew1 | refine below_set ?_ GE160.out) | exact HB.out)) : p := h
theorem zi2 {p : Prop} (h : p := by first | exact BK160.out | ((with_reducible repeat (first | refine blk_drewN ?_ _ | refine blk_drew ?_ | refine blk_alloc ?_ _)); exact BK160.out)) : p := h
theorem zi3 {p : Prop} (h : p := by (try simp only [List.map_toArray, List.map_cons, List.map_nil]); first | done | rfl | (simp only [List.length_drop, List.length_take]; rfl)) : p := h
theorem zi4 {p : Prop} (h : p := by repeat (first | exact (Kd.C_below HR0_2.out HB.out) | (with_reducible refine Kd.C_alloc ?_ _) | (with_reducible refine Kd.C_drewN ?_ _) | (with_reducible refine Kd.C_drew ?_))) : p := h
theorem zi5 {p : Prop} (h : p := by first | exact HO_59.out | ((with_reducible repeat (first | apply Kd.R_alloc | apply Kd.R_drewN | apply Kd.R_drew)); exact HO_59.out)) : p := h
theorem zi6 {p : Prop} (h : p := by first | exact HO_35.out | ((with_reducible repeat (first | apply Kd.R_alloc | apply Kd.R_drewN | apply Kd.R_drew)); exact HO_35.out)) : p := h
theorem zi7 {p : Prop} (h : p := by first | (with_reducible assumption) | assumption) : p := h
theorem zi8 {p : Prop} (h : p := by first | rfl | (simp; done) | (simp [*]; done)) : p := h
theorem zi9 {p : Prop} (h : p := by first | rfl | (simp [errW_none, errW_some] <;> rfl) | (simp [*, errW_none, errW_some] <;> rfl)) : p := h
theorem zi10 {p : Prop} (h : p := by repeat (first | (with_reducible first | exact HB.out | apply below_alloc | apply pw_below_drewN | apply below_drew1) | exact HB.out)) : p := h
theorem zi11 {p : Prop} (h : p := by first | omega | exact Nat.le_refl _) : p := h
theorem zi12 {p : Prop} (h : p := by repeat (first | exact (Kd.C_below HR0_2.out zi1) | (with_reducible refine Kd.C_alloc ?_ _) | (with_reducible refine Kd.C_drewN ?_ _) | (with_reducible refine Kd.C_drew ?_))) : p := h
/-! ### spec_crDo: function 44 -/
mutual
def spec_crDo.j0 : Nat → Int → Int → Int → Int → Bool → Int → Int → List Int → Option (Bool)
 | 0, _, _, _, _, _, _, _, _ => none
 | k + 1, x1, x2, x3, x4, x32, x161000, x161001, x161002 => if x32 = true then (some true) else ((some (([x3, x4] : List Int) : List Int)).bind fun y161 => (spec_crDo.l0 k x1 x2 x3 x4 y161 (y161.length : Int) 0 x161000 x161001 x161002))
def spec_crDo.l0 : Nat → Int → Int → Int → Int → List Int → Int → Int → Int → Int → List Int → Option (Bool)
 | 0, _, _, _, _, _, _, _, _, _, _ => none
 | k + 1, x1, x2, x3, x4, x35, x36, x37, x161000, x161001, x161002 => if x37 < x36 then (if 0 ≤ x37 then (if x37 < (x35.length : Int) then ((spec_crOn.f x161000 x161001 x161002 x1 x2 (rd x35 x37)).bind fun t165 => (if t165 = true then (if (rd x35 x37) = x1 then (spec_crDo.l0 k x1 x2 x3 x4 x35 x36 (wrap64 (x37 + 1)) x161000 x161001 x161002) else (if (rd x35 x37) = x2 then (spec_crDo.l0 k x1 x2 x3 x4 x35 x36 (wrap64 (x37 + 1)) x161000 x161001 x161002) else (some true))) else (spec_crDo.l0 k x1 x2 x3 x4 x35 x36 (wrap64 (x37 + 1)) x161000 x161001 x161002))) else (none)) else (none)) else ((some (([x1, x2] : List Int) : List Int)).bind fun y166 => (spec_crDo.l1 k x1 x2 x3 x4 y166 (y166.length : Int) 0 x161000 x161001 x161002))
def spec_crDo.l1 : Nat → Int → Int → Int → Int → List Int → Int → Int → Int → Int → List Int → Option (Bool)
 | 0, _, _, _, _, _, _, _, _, _, _ => none
 | k + 1, x1, x2, x3, x4, x59, x60, x61, x161000, x161001, x161002 => if x61 < x60 then (if 0 ≤ x61 then (if x61 < (x59.length : Int) then ((spec_crOn.f x161000 x161001 x161002 x3 x4 (rd x59 x61)).bind fun t170 => (if t170 = true then (if (rd x59 x61) = x3 then (spec_crDo.l1 k x1 x2 x3 x4 x59 x60 (wrap64 (x61 + 1)) x161000 x161001 x161002) else (if (rd x59 x61) = x4 then (spec_crDo.l1 k x1 x2 x3 x4 x59 x60 (wrap64 (x61 + 1)) x161000 x161001 x161002) else (some true))) else (spec_crDo.l1 k x1 x2 x3 x4 x59 x60 (wrap64 (x61 + 1)) x161000 x161001 x161002))) else (none)) else (none)) else ((spec_crCross.f x161000 x161001 x161002 x1 x2 x3).bind fun t171 => ((spec_l1Sign.f t171).bind fun t172 => ((spec_crCross.f x161000 x161001 x161002 x1 x2 x4).bind fun t173 => ((spec_l1Sign.f t173).bind fun t174 => (if (wrap64 (t172 * t174)) < 0 then ((spec_crCross.f x161000 x161001 x161002 x3 x4 x1).bind fun t175 => ((spec_l1Sign.f t175).bind fun t176 => ((spec_crCross.f x161000 x161001 x161002 x3 x4 x2).bind fun t177 => ((spec_l1Sign.f t177).bind fun t178 => (some (decide ((wrap64 (t176 * t178)) < 0))))))) else (some false))))))
end
def spec_crDo.f (k : Nat) (a0_0 : Int) (a0_1 : Int) (l0_2 : List Int) (a1 : Int) (a2 : Int) (a3 : Int) (a4 : Int) : Option (Bool) := if a1 = a3 then (if a2 = a4 then (spec_crDo.j0 k a1 a2 a3 a4 true a0_0 a0_1 l0_2) else (if a1 = a4 then (spec_crDo.j0 k a1 a2 a3 a4 (a2 == a3) a0_0 a0_1 l0_2) else (spec_crDo.j0 k a1 a2 a3 a4 false a0_0 a0_1 l0_2))) else (if a1 = a4 then (spec_crDo.j0 k a1 a2 a3 a4 (a2 == a3) a0_0 a0_1 l0_2) else (spec_crDo.j0 k a1 a2 a3 a4 false a0_0 a0_1 l0_2))
def spec_crDo.T15 : Bool × List (List Nat × List Nat) := (true, [([], []), ([], []), ([], []), ([], []), ([0, 1, 2, 3], [0, 1, 2, 3]), ([4, 4], [4]), ([], []), ([], []), ([], []), ([], []), ([6, 7, 8, 9, 5], [6, 7, 8, 9]), ([10, 10], [10]), ([5, 11], [5, 11]), ([12], [12]), ([13, 11], [13]), ([14], [14]), ([14], [14]), ([14], [14]), ([14], [14]), ([15, 16, 17, 18, 14, 14], [14, 15, 16, 17, 18]), ([19, 19, 14], [14, 19]), ([14], [14]), ([14], [14]), ([14], [14]), ([14], [14]), ([21, 22, 23, 24, 20, 14], [14, 21, 22, 23, 24]), ([25, 25, 14], [14, 25]), ([20, 26, 14], [14, 20, 26]), ([27, 14], [14, 27]), ([14, 28], [14, 28]), ([29, 26, 0, 1, 2, 3, 4, 5, 6, 7, 8, 9, 10, 11, 12, 13, 14, 15, 16, 17, 18, 19, 20, 21, 22, 23, 24, 25, 26, 27, 28, 29], [29])])
def spec_crDo.B15 : List Nat := [0, 0, 0, 0, 15, 31, 0, 0, 0, 0, 1023, 2047, 4095, 8191, 16383, 32767, 32767, 32767, 32767, 524287, 1048575, 32767, 32767, 32767, 32767, 33554431, 67108863, 134217727, 268435455, 536870911, 1073741823]
theorem spec_crDo.tab15 : rtab .any (opsOf Try.f44 15) = spec_crDo.T15 := by kernel_rfl
theorem spec_crDo.bits15 : waitsOk spec_crDo.T15.2 spec_crDo.B15 = true := by kernel_rfl
set_option maxHeartbeats 8000000 in
set_option maxRecDepth 100000 in
theorem spec_crDo.calls (k : Nat) (a0_0 : Int) (a0_1 : Int) (A0_2 : Option Addr) (c0_2 : Nat) (l0_2 : List Int) (a1 : Int) (a2 : Int) (a3 : Int) (a4 : Int) (r : Bool) (w : World) (hr0_2 : Kd.C (Kd.int .i64) w A0_2 l0_2.length l0_2) (hc0_2 : l0_2.length ≤ c0_2) (h : spec_crDo.f k a0_0 a0_1 l0_2 a1 a2 a3 a4 = some r) :
  Calls Try.prog 44 #[.agg #[.int .i64 a0_0, .int .i64 a0_1, .slice A0_2 l0_2.length c0_2], .int .i64 a1, .int .i64 a2, .int .i64 a3, .int .i64 a4] w fun e w' => e = .returned (.bool r) ∧ Below w.heap.size w w' := by
 have hu31 := Try.underlying31
 have HR0_2 := Aside0.mk hr0_2
 have HC0_2 := Aside0.mk hc0_2
 clear hr0_2 hc0_2
 have HB := Aside0.mk (Below.refl w.heap.size w)
 have H : (if a1 = a3 then (if a2 = a4 then (spec_crDo.j0 k a1 a2 a3 a4 true a0_0 a0_1 l0_2) else (if a1 = a4 then (spec_crDo.j0 k a1 a2 a3 a4 (a2 == a3) a0_0 a0_1 l0_2) else (spec_crDo.j0 k a1 a2 a3 a4 false a0_0 a0_1 l0_2))) else (if a1 = a4 then (spec_crDo.j0 k a1 a2 a3 a4 (a2 == a3) a0_0 a0_1 l0_2) else (spec_crDo.j0 k a1 a2 a3 a4 false a0_0 a0_1 l0_2))) = some r := h
 clear h
 have HC6 := Aside0.mk H
 clear H
 go_enter Try.func44, Try.ntmps44
 go_upto_region 1 with (first | ((with_reducible refine gate_dst (N := 5) rfl ?_); refine box_event ?hg (N := 5) ?hd (cs := #[.int .i64 a0_0, .int .i64 a0_1, .slice A0_2 l0_2.length c0_2]) (t := 31) ?hr ?_; (case hd => rfl); (case hg => rfl); (case hr => first | (go_simp; done) | (go_simp; rfl)); intro gb160 hg w7 hbox hb; have n0_ := Aside0.mk (below_step zi10 hb); have n1_ := Aside0.mk (hbox); have n2_ := Aside0.mk ((by rw [hg]; exact (below_size zi10) : w.heap.size ≤ gb160)); have n3_ := Aside0.mk ((by rw [hg]; exact (below_size zi10) : w.heap.size ≤ gb160)); clear HB; have HB := n0_; have BK160 := n1_; have GW160 := n2_; have GE160 := n3_; clear n0_ n1_ n2_ n3_; clear hb hbox hg))
 (try simp only [Act.put, List.setIfInBounds_toArray, List.set_cons_zero, List.set_cons_succ])
 go_cut [32] (fun v32 wc => ∃ (kq : Nat) (x32_5 : Bool), v32 = .bool x32_5 ∧ Aside0 (spec_crDo.j0 kq a1 a2 a3 a4 x32_5 a0_0 a0_1 l0_2 = some r) ∧ Aside0 (kq ≤ k) ∧ Aside0 (wc.heap[gb160]? = some (.cells #[.int .i64 a0_0, .int .i64 a0_1, (.slice A0_2 l0_2.length c0_2)] 31 (0, 0))) ∧ Aside0 (Below w.heap.size w wc))
 case first =>
  have H := HC6.out
  clear HC6
  by_cases c8 : a1 = a3
  rotate_left
  ·rw [if_neg c8] at H
   have c8b0 : (a1 == a3) = false := beq_eq_false_iff_ne.mpr c8
   have c8b1 : (a1 != a3) = true := bne_iff_ne.mpr c8
   (first | rw [c8b0] | (simp only [i64_w, i32_w]; rw [c8b0]) | skip)
   by_cases c11 : a1 = a4
   rotate_left
   ·rw [if_neg c11] at H
    have c11b0 : (a1 == a4) = false := beq_eq_false_iff_ne.mpr c11
    have c11b1 : (a1 != a4) = true := bne_iff_ne.mpr c11
    have H' := Aside0.mk H
    clear H
    go_wp2
    go_meet
    case rel => exact ⟨_, (false), zi8, H', ⟨zi11⟩, ⟨zi2⟩, ⟨zi1⟩⟩
   rw [if_pos c11] at H
   have c11b0 : (a1 == a4) = true := beq_iff_eq.mpr c11
   have c11b1 : (a1 != a4) = false := bne_eq_false_iff_eq.mpr c11
   clear c11
   have H' := Aside0.mk H
   clear H
   go_wp2
   go_meet
   case rel => exact ⟨_, ((a2 == a3)), zi8, H', ⟨zi11⟩, ⟨zi2⟩, ⟨zi1⟩⟩
  rw [if_pos c8] at H
  have c8b0 : (a1 == a3) = true := beq_iff_eq.mpr c8
  have c8b1 : (a1 != a3) = false := bne_eq_false_iff_eq.mpr c8
  clear c8
  (first | rw [c8b0] | (simp only [i64_w, i32_w]; rw [c8b0]) | skip)
  by_cases c9 : a2 = a4
  ·rw [if_pos c9] at H
   have c9b0 : (a2 == a4) = true := beq_iff_eq.mpr c9
   have c9b1 : (a2 != a4) = false := bne_eq_false_iff_eq.mpr c9
   clear c9
   have H' := Aside0.mk H
   clear H
   go_wp2
   go_meet
   case rel => exact ⟨_, (true), zi8, H', ⟨zi11⟩, ⟨zi2⟩, ⟨zi1⟩⟩
  rw [if_neg c9] at H
  have c9b0 : (a2 == a4) = false := beq_eq_false_iff_ne.mpr c9
  have c9b1 : (a2 != a4) = true := bne_iff_ne.mpr c9
  by_cases c10 : a1 = a4
  rotate_left
  ·rw [if_neg c10] at H
   have c10b0 : (a1 == a4) = false := beq_eq_false_iff_ne.mpr c10
   have c10b1 : (a1 != a4) = true := bne_iff_ne.mpr c10
   have H' := Aside0.mk H
   clear H
   go_wp2
   go_meet
   case rel => exact ⟨_, (false), zi8, H', ⟨zi11⟩, ⟨zi2⟩, ⟨zi1⟩⟩
  rw [if_pos c10] at H
  have c10b0 : (a1 == a4) = true := beq_iff_eq.mpr c10
  have c10b1 : (a1 != a4) = false := bne_eq_false_iff_eq.mpr c10
  clear c10
  have H' := Aside0.mk H
  clear H
  go_wp2
  go_meet
  case rel => exact ⟨_, ((a2 == a3)), zi8, H', ⟨zi11⟩, ⟨zi2⟩, ⟨zi1⟩⟩
 case rest =>
  clear HC6
  try clear c1; try clear p2; try clear c4; try clear c8; try clear c8b0; try clear c8b1; try clear c9; try clear c9b0; try clear c9b1; try clear c10; try clear c10b0; try clear c10b1; try clear c11; try clear c11b0; try clear c11b1
  obtain ⟨kq, x32_5, rfl, HA, HJ5, BK160, HB⟩ := hcut
  cases kq with
  | zero => exact absurd HA.out (by simp [spec_crDo.j0])
  | succ kj5 =>
   have H := HA.out
   clear HA
   simp only [spec_crDo.j0] at H
   by_cases c12 : x32_5 = true
   ·subst c12
    have H1 : (some true) = some r := by rw [if_pos rfl] at H; exact H
    clear H
    have H := H1
    clear H1
    obtain rfl := Option.some.inj H
    go_wp2
    go_ret
    exact ⟨zi9, zi1⟩
   replace c12 := Bool.eq_false_iff.mpr c12
   subst c12
   have H1 : ((some (([a3, a4] : List Int) : List Int)).bind fun y161 => (spec_crDo.l0 kj5 a1 a2 a3 a4 y161 (y161.length : Int) 0 a0_0 a0_1 l0_2)) = some r := by rw [if_neg (show ¬ (false = true) by decide)] at H; exact H
   clear H
   have H := H1
   clear H1
   obtain ⟨y161, hy161⟩ : ∃ y_ : List Int, y_ = (([a3, a4] : List Int)) := ⟨_, rfl⟩
   replace H : (spec_crDo.l0 kj5 a1 a2 a3 a4 y161 (y161.length : Int) 0 a0_0 a0_1 l0_2) = some r := by first | (rw [hy161]; with_reducible exact H) | (have H2_ := (Option.bind_some _ _).symm.trans H; rw [hy161]; with_reducible exact H2_) | (have H2_ := (Option.bind_some _ _).symm.trans H; with_reducible exact H2_) | with_reducible exact H | (rw [hy161]; exact H) | exact H
   have Ny161 := Aside0.mk hy161
   clear hy161
   have H' := Aside0.mk H
   clear H
   go_wp2_with (first | ((with_reducible refine gate_dst (N := 35) rfl ?_); refine Kd.R_lit (Kd.int .i64) _ 3 ?hg (N := 35) ?hd (xs := ([a3, a4] : List Int)) (inner := [.int .i64 a3, .int .i64 a4]) (ok := fun _ => True) (okp := fun _ => True) ?hr ?hp (fun _ hk => hk) trivial (Below.refl _ _) (Nat.le_refl _) (by simp) ?_; (case hd => rfl); (case hg => rfl); (case hr => first | (go_simp; done) | (go_simp; rfl)); (case hp => exact (Reps.one (show Kd.M (Kd.int .i64) _ _ _ a3 [.int .i64 a3] from rfl) (Reps.one (show Kd.M (Kd.int .i64) _ _ _ a4 [.int .i64 a4] from rfl) (Reps.none _ _)))); intro v162 w13 ho14 hb hg_ hnew_; clear hg_ hnew_; (first | rw [← Ny161.out] at ho14 | (simp only [Int.reduceToNat] at ho14; rw [← Ny161.out] at ho14)); have n0_ := Aside0.mk (Kd.R_lower ho14 (below_size zi1)); have n1_ := Aside0.mk (blk_below (g := gb160) (o := .cells #[.int .i64 a0_0, .int .i64 a0_1, .slice A0_2 l0_2.length c0_2] 31 (0, 0)) zi2 hb); have n2_ := Aside0.mk (below_step zi1 hb); clear BK160; clear HB; have HO163 := n0_; have BK160 := n1_; have HB := n2_; clear n0_ n1_ n2_; clear hb ho14; obtain ⟨Ao15, co15, eo15⟩ := Kd.R_slice HO163.out; subst eo15))
   go_loopg [37] kj5 (fun kq v37 w' => ∃ (x37_2 : Int), v37 = .int .i64 x37_2 ∧ Aside0 (spec_crDo.l0 kq a1 a2 a3 a4 y161 (y161.length : Int) x37_2 a0_0 a0_1 l0_2 = some r) ∧ Aside0 (kq ≤ kj5) ∧ Aside0 (Kd.R (Kd.int .i64) 3 w' w.heap.size (fun _ => True) (.slice Ao15 y161.length co15) y161) ∧ Aside0 (w'.heap[gb160]? = some (.cells #[.int .i64 a0_0, .int .i64 a0_1, (.slice A0_2 l0_2.length c0_2)] 31 (0, 0))) ∧ Aside0 (Below w.heap.size w w'))
   case atStart => exact ⟨(0), zi8, H', ⟨Nat.le_refl _⟩, ⟨by first | exact HO163.out | ((with_reducible repeat (first | apply Kd.R_alloc | apply Kd.R_drewN | apply Kd.R_drew)); exact HO163.out)⟩, ⟨zi2⟩, ⟨zi1⟩⟩
   case round =>
    clear H'
    try clear c1; try clear p2; try clear c4; try clear c8; try clear c8b0; try clear c8b1; try clear c9; try clear c9b0; try clear c9b1; try clear c10; try clear c10b0; try clear c10b1; try clear c11; try clear c11b0; try clear c11b1; try clear c12; try clear p2
    obtain ⟨x37_2, rfl, HA, HK2, HO_35, BK160, HB⟩ := hrel
    cases gk with
    | zero => exact absurd HA.out (by simp [spec_crDo.l0])
    | succ k2 =>
     have H := HA.out
     clear HA
     simp only [spec_crDo.l0] at H
     by_cases c16 : x37_2 < (y161.length : Int)
     ·rw [if_pos c16] at H
      have c16b0 : decide (x37_2 < (y161.length : Int)) = true := decide_eq_true c16
      clear c16
      by_cases c17 : 0 ≤ x37_2
      rotate_left
      ·rw [if_neg c17] at H
       exact absurd H (by simp)
      rw [if_pos c17] at H
      have c17b0 : decide (0 ≤ x37_2) = true := decide_eq_true c17
      clear c17
      by_cases c18 : x37_2 < (y161.length : Int)
      rotate_left
      ·rw [if_neg c18] at H
       exact absurd H (by simp)
      rw [if_pos c18] at H
      have c18b0 : decide (x37_2 < (y161.length : Int)) = true := decide_eq_true c18
      clear c18
      replace H := Option.bind_eq_some_iff.mp H
      obtain ⟨t165, A190, H⟩ := H
      replace H : (if t165 = true then (if (rd y161 x37_2) = a1 then (spec_crDo.l0 k2 a1 a2 a3 a4 y161 (y161.length : Int) (wrap64 (x37_2 + 1)) a0_0 a0_1 l0_2) else (if (rd y161 x37_2) = a2 then (spec_crDo.l0 k2 a1 a2 a3 a4 y161 (y161.length : Int) (wrap64 (x37_2 + 1)) a0_0 a0_1 l0_2) else (some true))) else (spec_crDo.l0 k2 a1 a2 a3 a4 y161 (y161.length : Int) (wrap64 (x37_2 + 1)) a0_0 a0_1 l0_2)) = some r := H
      have A19 := Aside0.mk A190
      clear A190
      by_cases c20 : t165 = true
      rotate_left
      ·replace c20 := Bool.eq_false_iff.mpr c20
       subst c20
       have H1 : (spec_crDo.l0 k2 a1 a2 a3 a4 y161 (y161.length : Int) (wrap64 (x37_2 + 1)) a0_0 a0_1 l0_2) = some r := by rw [if_neg (show ¬ (false = true) by decide)] at H; exact H
       clear H
       have H := H1
       clear H1
       have H' := Aside0.mk H
       clear H
       have p164 : 0 ≤ (x37_2 : Int) := of_decide_eq_true zi7
       have q164 : x37_2 < (y161.length : Int) := of_decide_eq_true zi7
       obtain ⟨ad164, e164, hx164_0⟩ := Kd.at_int (Kd.R_reads' HO_35.out).2.2 x37_2 p164 q164
       cases e164
       replace p164 := eq_true p164
       replace q164 := eq_true q164
       have hcz29_0 : wr.cell? ⟨gb160, 0, none⟩ = some (.int .i64 a0_0) := (blk_cell BK160.out 0).trans rfl
       have hcz29_1 : wr.cell? ⟨gb160, 1, none⟩ = some (.int .i64 a0_1) := (blk_cell BK160.out 1).trans rfl
       have hcz29_2 : wr.cell? ⟨gb160, 2, none⟩ = some (.slice A0_2 l0_2.length c0_2) := (blk_cell BK160.out 2).trans rfl
       have hfz29_0 := blk_frozen BK160.out 0
       have hfz29_1 := blk_frozen BK160.out 1
       have hfz29_2 := blk_frozen BK160.out 2
       go_wp2_with (first | ((with_reducible refine gate_callee (f := 67) rfl ?_); refine goesL_ (some 45) rfl rfl Try.func67 (by kernel_rfl) rfl #[.agg #[.int .i64 a0_0, .int .i64 a0_1, .slice A0_2 l0_2.length c0_2], .int .i64 a1, .int .i64 a2, .int .i64 (rd y161 x37_2)] rfl zi3 ?_; (with_reducible refine (spec_crOn.calls a0_0 a0_1 _ _ l0_2 a1 a2 (rd y161 x37_2) false _ ?side1 ?side2 A19.out).mono ?_); (case side1 => exact zi4); (case side2 => exact HC0_2.out); rintro e w30 ⟨rfl, hb⟩; refine ⟨_, rfl, ?_⟩; have n0_ := Aside0.mk (Kd.R_below zi6 hb); have n1_ := Aside0.mk (blk_below (g := gb160) (o := .cells #[.int .i64 a0_0, .int .i64 a0_1, .slice A0_2 l0_2.length c0_2] 31 (0, 0)) zi2 hb); have n2_ := Aside0.mk (below_step zi1 hb); clear HO_35; clear BK160; clear HB; have HO_35 := n0_; have BK160 := n1_; have HB := n2_; clear n0_ n1_ n2_; (try clear hb); (try clear hb2); (try clear hk); (try clear hi); (try clear hna_); (try clear hnb_)))
       go_roundg k2
       case measure => have := HJ5.out; have := HK2.out; omega
       case rel => exact ⟨(wrap64 (x37_2 + 1)), zi8, H', ⟨by have := HJ5.out; have := HK2.out; omega⟩, ⟨zi6⟩, ⟨zi2⟩, ⟨zi1⟩⟩
      subst c20
      have H1 : (if (rd y161 x37_2) = a1 then (spec_crDo.l0 k2 a1 a2 a3 a4 y161 (y161.length : Int) (wrap64 (x37_2 + 1)) a0_0 a0_1 l0_2) else (if (rd y161 x37_2) = a2 then (spec_crDo.l0 k2 a1 a2 a3 a4 y161 (y161.length : Int) (wrap64 (x37_2 + 1)) a0_0 a0_1 l0_2) else (some true))) = some r := by rw [if_pos rfl] at H; exact H
      clear H
      have H := H1
      clear H1
      by_cases c21 : (rd y161 x37_2) = a1
      ·rw [if_pos c21] at H
       have c21b0 : ((rd y161 x37_2) == a1) = true := beq_iff_eq.mpr c21
       have c21b1 : ((rd y161 x37_2) != a1) = false := bne_eq_false_iff_eq.mpr c21
       clear c21
       have H' := Aside0.mk H
       clear H
       have p164 : 0 ≤ (x37_2 : Int) := of_decide_eq_true zi7
       have q164 : x37_2 < (y161.length : Int) := of_decide_eq_true zi7
       obtain ⟨ad164, e164, hx164_0⟩ := Kd.at_int (Kd.R_reads' HO_35.out).2.2 x37_2 p164 q164
       cases e164
       replace p164 := eq_true p164
       replace q164 := eq_true q164
       have hcz22_0 : wr.cell? ⟨gb160, 0, none⟩ = some (.int .i64 a0_0) := (blk_cell BK160.out 0).trans rfl
       have hcz22_1 : wr.cell? ⟨gb160, 1, none⟩ = some (.int .i64 a0_1) := (blk_cell BK160.out 1).trans rfl
       have hcz22_2 : wr.cell? ⟨gb160, 2, none⟩ = some (.slice A0_2 l0_2.length c0_2) := (blk_cell BK160.out 2).trans rfl
       have hfz22_0 := blk_frozen BK160.out 0
       have hfz22_1 := blk_frozen BK160.out 1
       have hfz22_2 := blk_frozen BK160.out 2
       go_wp2_with (first | ((with_reducible refine gate_callee (f := 67) rfl ?_); refine goesL_ (some 45) rfl rfl Try.func67 (by kernel_rfl) rfl #[.agg #[.int .i64 a0_0, .int .i64 a0_1, .slice A0_2 l0_2.length c0_2], .int .i64 a1, .int .i64 a2, .int .i64 (rd y161 x37_2)] rfl zi3 ?_; (with_reducible refine (spec_crOn.calls a0_0 a0_1 _ _ l0_2 a1 a2 (rd y161 x37_2) true _ ?side1 ?side2 A19.out).mono ?_); (case side1 => exact zi4); (case side2 => exact HC0_2.out); rintro e w23 ⟨rfl, hb⟩; refine ⟨_, rfl, ?_⟩; have n0_ := Aside0.mk (Kd.R_below zi6 hb); have n1_ := Aside0.mk (blk_below (g := gb160) (o := .cells #[.int .i64 a0_0, .int .i64 a0_1, .slice A0_2 l0_2.length c0_2] 31 (0, 0)) zi2 hb); have n2_ := Aside0.mk (below_step zi1 hb); clear HO_35; clear BK160; clear HB; have HO_35 := n0_; have BK160 := n1_; have HB := n2_; clear n0_ n1_ n2_; (try clear hb); (try clear hb2); (try clear hk); (try clear hi); (try clear hna_); (try clear hnb_)))
       go_roundg k2
       case measure => have := HJ5.out; have := HK2.out; omega
       case rel => exact ⟨(wrap64 (x37_2 + 1)), zi8, H', ⟨by have := HJ5.out; have := HK2.out; omega⟩, ⟨zi6⟩, ⟨zi2⟩, ⟨zi1⟩⟩
      rw [if_neg c21] at H
      have c21b0 : ((rd y161 x37_2) == a1) = false := beq_eq_false_iff_ne.mpr c21
      have c21b1 : ((rd y161 x37_2) != a1) = true := bne_iff_ne.mpr c21
      by_cases c24 : (rd y161 x37_2) = a2
      rotate_left
      ·rw [if_neg c24] at H
       have c24b0 : ((rd y161 x37_2) == a2) = false := beq_eq_false_iff_ne.mpr c24
       have c24b1 : ((rd y161 x37_2) != a2) = true := bne_iff_ne.mpr c24
       obtain rfl := Option.some.inj H
       have p164 : 0 ≤ (x37_2 : Int) := of_decide_eq_true zi7
       have q164 : x37_2 < (y161.length : Int) := of_decide_eq_true zi7
       obtain ⟨ad164, e164, hx164_0⟩ := Kd.at_int (Kd.R_reads' HO_35.out).2.2 x37_2 p164 q164
       cases e164
       replace p164 := eq_true p164
       replace q164 := eq_true q164
       have hcz27_0 : wr.cell? ⟨gb160, 0, none⟩ = some (.int .i64 a0_0) := (blk_cell BK160.out 0).trans rfl
       have hcz27_1 : wr.cell? ⟨gb160, 1, none⟩ = some (.int .i64 a0_1) := (blk_cell BK160.out 1).trans rfl
       have hcz27_2 : wr.cell? ⟨gb160, 2, none⟩ = some (.slice A0_2 l0_2.length c0_2) := (blk_cell BK160.out 2).trans rfl
       have hfz27_0 := blk_frozen BK160.out 0
       have hfz27_1 := blk_frozen BK160.out 1
       have hfz27_2 := blk_frozen BK160.out 2
       go_wp2_with (first | ((with_reducible refine gate_callee (f := 67) rfl ?_); refine goesL_ (some 45) rfl rfl Try.func67 (by kernel_rfl) rfl #[.agg #[.int .i64 a0_0, .int .i64 a0_1, .slice A0_2 l0_2.length c0_2], .int .i64 a1, .int .i64 a2, .int .i64 (rd y161 x37_2)] rfl zi3 ?_; (with_reducible refine (spec_crOn.calls a0_0 a0_1 _ _ l0_2 a1 a2 (rd y161 x37_2) true _ ?side1 ?side2 A19.out).mono ?_); (case side1 => exact zi4); (case side2 => exact HC0_2.out); rintro e w28 ⟨rfl, hb⟩; refine ⟨_, rfl, ?_⟩; have n0_ := Aside0.mk (Kd.R_below zi6 hb); have n1_ := Aside0.mk (blk_below (g := gb160) (o := .cells #[.int .i64 a0_0, .int .i64 a0_1, .slice A0_2 l0_2.length c0_2] 31 (0, 0)) zi2 hb); have n2_ := Aside0.mk (below_step zi1 hb); clear HO_35; clear BK160; clear HB; have HO_35 := n0_; have BK160 := n1_; have HB := n2_; clear n0_ n1_ n2_; (try clear hb); (try clear hb2); (try clear hk); (try clear hi); (try clear hna_); (try clear hnb_)))
       go_ret
       exact ⟨zi9, zi1⟩
      rw [if_pos c24] at H
      have c24b0 : ((rd y161 x37_2) == a2) = true := beq_iff_eq.mpr c24
      have c24b1 : ((rd y161 x37_2) != a2) = false := bne_eq_false_iff_eq.mpr c24
      clear c24
      have H' := Aside0.mk H
      clear H
      have p164 : 0 ≤ (x37_2 : Int) := of_decide_eq_true zi7
      have q164 : x37_2 < (y161.length : Int) := of_decide_eq_true zi7
      obtain ⟨ad164, e164, hx164_0⟩ := Kd.at_int (Kd.R_reads' HO_35.out).2.2 x37_2 p164 q164
      cases e164
      replace p164 := eq_true p164
      replace q164 := eq_true q164
      have hcz25_0 : wr.cell? ⟨gb160, 0, none⟩ = some (.int .i64 a0_0) := (blk_cell BK160.out 0).trans rfl
      have hcz25_1 : wr.cell? ⟨gb160, 1, none⟩ = some (.int .i64 a0_1) := (blk_cell BK160.out 1).trans rfl
      have hcz25_2 : wr.cell? ⟨gb160, 2, none⟩ = some (.slice A0_2 l0_2.length c0_2) := (blk_cell BK160.out 2).trans rfl
      have hfz25_0 := blk_frozen BK160.out 0
      have hfz25_1 := blk_frozen BK160.out 1
      have hfz25_2 := blk_frozen BK160.out 2
      go_wp2_with (first | ((with_reducible refine gate_callee (f := 67) rfl ?_); refine goesL_ (some 45) rfl rfl Try.func67 (by kernel_rfl) rfl #[.agg #[.int .i64 a0_0, .int .i64 a0_1, .slice A0_2 l0_2.length c0_2], .int .i64 a1, .int .i64 a2, .int .i64 (rd y161 x37_2)] rfl zi3 ?_; (with_reducible refine (spec_crOn.calls a0_0 a0_1 _ _ l0_2 a1 a2 (rd y161 x37_2) true _ ?side1 ?side2 A19.out).mono ?_); (case side1 => exact zi4); (case side2 => exact HC0_2.out); rintro e w26 ⟨rfl, hb⟩; refine ⟨_, rfl, ?_⟩; have n0_ := Aside0.mk (Kd.R_below zi6 hb); have n1_ := Aside0.mk (blk_below (g := gb160) (o := .cells #[.int .i64 a0_0, .int .i64 a0_1, .slice A0_2 l0_2.length c0_2] 31 (0, 0)) zi2 hb); have n2_ := Aside0.mk (below_step zi1 hb); clear HO_35; clear BK160; clear HB; have HO_35 := n0_; have BK160 := n1_; have HB := n2_; clear n0_ n1_ n2_; (try clear hb); (try clear hb2); (try clear hk); (try clear hi); (try clear hna_); (try clear hnb_)))
      go_roundg k2
      case measure => have := HJ5.out; have := HK2.out; omega
      case rel => exact ⟨(wrap64 (x37_2 + 1)), zi8, H', ⟨by have := HJ5.out; have := HK2.out; omega⟩, ⟨zi6⟩, ⟨zi2⟩, ⟨zi1⟩⟩
     rw [if_neg c16] at H
     have c16b0 : decide (x37_2 < (y161.length : Int)) = false := decide_eq_false c16
     clear c16
     obtain ⟨y166, hy166⟩ : ∃ y_ : List Int, y_ = (([a1, a2] : List Int)) := ⟨_, rfl⟩
     replace H : (spec_crDo.l1 k2 a1 a2 a3 a4 y166 (y166.length : Int) 0 a0_0 a0_1 l0_2) = some r := by first | (rw [hy166]; with_reducible exact H) | (have H2_ := (Option.bind_some _ _).symm.trans H; rw [hy166]; with_reducible exact H2_) | (have H2_ := (Option.bind_some _ _).symm.trans H; with_reducible exact H2_) | with_reducible exact H | (rw [hy166]; exact H) | exact H
     have Ny166 := Aside0.mk hy166
     clear hy166
     have H' := Aside0.mk H
     clear H
     go_wp2_with (first | ((with_reducible refine gate_dst (N := 59) rfl ?_); refine Kd.R_lit (Kd.int .i64) _ 3 ?hg (N := 59) ?hd (xs := ([a1, a2] : List Int)) (inner := [.int .i64 a1, .int .i64 a2]) (ok := fun _ => True) (okp := fun _ => True) ?hr ?hp (fun _ hk => hk) trivial (Below.refl _ _) (Nat.le_refl _) (by simp) ?_; (case hd => rfl); (case hg => rfl); (case hr => first | (go_simp; done) | (go_simp; rfl)); (case hp => exact (Reps.one (show Kd.M (Kd.int .i64) _ _ _ a1 [.int .i64 a1] from rfl) (Reps.one (show Kd.M (Kd.int .i64) _ _ _ a2 [.int .i64 a2] from rfl) (Reps.none _ _)))); intro v167 w31 ho32 hb hg_ hnew_; clear hg_ hnew_; (first | rw [← Ny166.out] at ho32 | (simp only [Int.reduceToNat] at ho32; rw [← Ny166.out] at ho32)); have n0_ := Aside0.mk (Kd.R_elder' zi6 (Kd.R_base ho32) hb); have n1_ := Aside0.mk (Kd.R_lower (Kd.R_new' ho32 (Kd.R_lt zi6)) (below_size zi1)); have n2_ := Aside0.mk (blk_below (g := gb160) (o := .cells #[.int .i64 a0_0, .int .i64 a0_1, .slice A0_2 l0_2.length c0_2] 31 (0, 0)) zi2 hb); have n3_ := Aside0.mk (below_step zi1 hb); clear HO_35; clear BK160; clear HB; have HO_35 := n0_; have HO168 := n1_; have BK160 := n2_; have HB := n3_; clear n0_ n1_ n2_ n3_; clear hb ho32; obtain ⟨Ao33, co33, eo33⟩ := Kd.R_slice HO168.out; subst eo33))
     go_loopg [61] k2 (fun kq v61 w' => ∃ (x61_3 : Int), v61 = .int .i64 x61_3 ∧ Aside0 (spec_crDo.l1 kq a1 a2 a3 a4 y166 (y166.length : Int) x61_3 a0_0 a0_1 l0_2 = some r) ∧ Aside0 (kq ≤ k2) ∧ Aside0 (Kd.R (Kd.int .i64) 3 w' w.heap.size (fun _ => True) (.slice Ao33 y166.length co33) y166) ∧ Aside0 (w'.heap[gb160]? = some (.cells #[.int .i64 a0_0, .int .i64 a0_1, (.slice A0_2 l0_2.length c0_2)] 31 (0, 0))) ∧ Aside0 (Below w.heap.size w w'))
     case atStart => exact ⟨(0), zi8, H', ⟨Nat.le_refl _⟩, ⟨by (with_reducible repeat (first | apply Kd.R_alloc | apply Kd.R_drewN | apply Kd.R_drew)); exact Kd.R_mono HO168.out (fun _ hk => trivial)⟩, ⟨zi2⟩, ⟨zi1⟩⟩
     case round =>
      clear H'
      try clear c1; try clear p1; try clear q1; try clear hx1; try clear c2; try clear p2; try clear c4; try clear c6; try clear p6; try clear c8; try clear c8b0; try clear c8b1; try clear c9; try clear c9b0; try clear c9b1; try clear c10; try clear c10b0; try clear c10b1; try clear c11; try clear c11b0; try clear c11b1; try clear c12; try clear c16; try clear c16b0; try clear p16; try clear q16; try clear hx16; try clear c17; try clear c17b0; try clear c18; try clear c18b0; try clear c20; try clear c21; try clear c21b0; try clear c21b1; try clear c24; try clear c24b0; try clear c24b1; try clear hcz22_0
      try clear hcz22_1; try clear hcz22_2; try clear hcz25_0; try clear hcz25_1; try clear hcz25_2; try clear hcz27_0; try clear hcz27_1; try clear hcz27_2; try clear hcz29_0; try clear hcz29_1; try clear hcz29_2; try clear hfz22_0; try clear hfz22_1; try clear hfz22_2; try clear hfz25_0; try clear hfz25_1; try clear hfz25_2; try clear hfz27_0; try clear hfz27_1; try clear hfz27_2; try clear hfz29_0; try clear hfz29_1; try clear hfz29_2; try clear hx164_0; try clear p164; try clear p2; try clear q164
      obtain ⟨x61_3, rfl, HA, HK3, HO_59, BK160, HB⟩ := hrel
      cases gk with
      | zero => exact absurd HA.out (by simp [spec_crDo.l1])
      | succ k3 =>
       have H := HA.out
       clear HA
       simp only [spec_crDo.l1] at H
       by_cases c34 : x61_3 < (y166.length : Int)
       ·rw [if_pos c34] at H
        have c34b0 : decide (x61_3 < (y166.length : Int)) = true := decide_eq_true c34
        clear c34
        by_cases c35 : 0 ≤ x61_3
        rotate_left
        ·rw [if_neg c35] at H
         exact absurd H (by simp)
        rw [if_pos c35] at H
        have c35b0 : decide (0 ≤ x61_3) = true := decide_eq_true c35
        clear c35
        by_cases c36 : x61_3 < (y166.length : Int)
        rotate_left
        ·rw [if_neg c36] at H
         exact absurd H (by simp)
        rw [if_pos c36] at H
        have c36b0 : decide (x61_3 < (y166.length : Int)) = true := decide_eq_true c36
        clear c36
        replace H := Option.bind_eq_some_iff.mp H
        obtain ⟨t170, A370, H⟩ := H
        replace H : (if t170 = true then (if (rd y166 x61_3) = a3 then (spec_crDo.l1 k3 a1 a2 a3 a4 y166 (y166.length : Int) (wrap64 (x61_3 + 1)) a0_0 a0_1 l0_2) else (if (rd y166 x61_3) = a4 then (spec_crDo.l1 k3 a1 a2 a3 a4 y166 (y166.length : Int) (wrap64 (x61_3 + 1)) a0_0 a0_1 l0_2) else (some true))) else (spec_crDo.l1 k3 a1 a2 a3 a4 y166 (y166.length : Int) (wrap64 (x61_3 + 1)) a0_0 a0_1 l0_2)) = some r := H
        have A37 := Aside0.mk A370
        clear A370
        by_cases c38 : t170 = true
        rotate_left
        ·replace c38 := Bool.eq_false_iff.mpr c38
         subst c38
         have H1 : (spec_crDo.l1 k3 a1 a2 a3 a4 y166 (y166.length : Int) (wrap64 (x61_3 + 1)) a0_0 a0_1 l0_2) = some r := by rw [if_neg (show ¬ (false = true) by decide)] at H; exact H
         clear H
         have H := H1
         clear H1
         have H' := Aside0.mk H
         clear H
         have p169 : 0 ≤ (x61_3 : Int) := of_decide_eq_true zi7
         have q169 : x61_3 < (y166.length : Int) := of_decide_eq_true zi7
         obtain ⟨ad169, e169, hx169_0⟩ := Kd.at_int (Kd.R_reads' HO_59.out).2.2 x61_3 p169 q169
         cases e169
         replace p169 := eq_true p169
         replace q169 := eq_true q169
         have hcz47_0 : wr.cell? ⟨gb160, 0, none⟩ = some (.int .i64 a0_0) := (blk_cell BK160.out 0).trans rfl
         have hcz47_1 : wr.cell? ⟨gb160, 1, none⟩ = some (.int .i64 a0_1) := (blk_cell BK160.out 1).trans rfl
         have hcz47_2 : wr.cell? ⟨gb160, 2, none⟩ = some (.slice A0_2 l0_2.length c0_2) := (blk_cell BK160.out 2).trans rfl
         have hfz47_0 := blk_frozen BK160.out 0
         have hfz47_1 := blk_frozen BK160.out 1
         have hfz47_2 := blk_frozen BK160.out 2
         go_wp2_with (first | ((with_reducible refine gate_callee (f := 67) rfl ?_); refine goesL_ (some 69) rfl rfl Try.func67 (by kernel_rfl) rfl #[.agg #[.int .i64 a0_0, .int .i64 a0_1, .slice A0_2 l0_2.length c0_2], .int .i64 a3, .int .i64 a4, .int .i64 (rd y166 x61_3)] rfl zi3 ?_; (with_reducible refine (spec_crOn.calls a0_0 a0_1 _ _ l0_2 a3 a4 (rd y166 x61_3) false _ ?side1 ?side2 A37.out).mono ?_); (case side1 => exact zi4); (case side2 => exact HC0_2.out); rintro e w48 ⟨rfl, hb⟩; refine ⟨_, rfl, ?_⟩; have n0_ := Aside0.mk (Kd.R_below zi5 hb); have n1_ := Aside0.mk (blk_below (g := gb160) (o := .cells #[.int .i64 a0_0, .int .i64 a0_1, .slice A0_2 l0_2.length c0_2] 31 (0, 0)) zi2 hb); have n2_ := Aside0.mk (below_step zi1 hb); clear HO_59; clear BK160; clear HB; have HO_59 := n0_; have BK160 := n1_; have HB := n2_; clear n0_ n1_ n2_; (try clear hb); (try clear hb2); (try clear hk); (try clear hi); (try clear hna_); (try clear hnb_)))
         go_roundg k3
         case measure => have := HJ5.out; have := HK2.out; have := HK3.out; omega
         case rel => exact ⟨(wrap64 (x61_3 + 1)), zi8, H', ⟨by have := HJ5.out; have := HK2.out; have := HK3.out; omega⟩, ⟨zi5⟩, ⟨zi2⟩, ⟨zi1⟩⟩
        subst c38
        have H1 : (if (rd y166 x61_3) = a3 then (spec_crDo.l1 k3 a1 a2 a3 a4 y166 (y166.length : Int) (wrap64 (x61_3 + 1)) a0_0 a0_1 l0_2) else (if (rd y166 x61_3) = a4 then (spec_crDo.l1 k3 a1 a2 a3 a4 y166 (y166.length : Int) (wrap64 (x61_3 + 1)) a0_0 a0_1 l0_2) else (some true))) = some r := by rw [if_pos rfl] at H; exact H
        clear H
        have H := H1
        clear H1
        by_cases c39 : (rd y166 x61_3) = a3
        ·rw [if_pos c39] at H
         have c39b0 : ((rd y166 x61_3) == a3) = true := beq_iff_eq.mpr c39
         have c39b1 : ((rd y166 x61_3) != a3) = false := bne_eq_false_iff_eq.mpr c39
         clear c39
         have H' := Aside0.mk H
         clear H
         have p169 : 0 ≤ (x61_3 : Int) := of_decide_eq_true zi7
         have q169 : x61_3 < (y166.length : Int) := of_decide_eq_true zi7
         obtain ⟨ad169, e169, hx169_0⟩ := Kd.at_int (Kd.R_reads' HO_59.out).2.2 x61_3 p169 q169
         cases e169
         replace p169 := eq_true p169
         replace q169 := eq_true q169
         have hcz40_0 : wr.cell? ⟨gb160, 0, none⟩ = some (.int .i64 a0_0) := (blk_cell BK160.out 0).trans rfl
         have hcz40_1 : wr.cell? ⟨gb160, 1, none⟩ = some (.int .i64 a0_1) := (blk_cell BK160.out 1).trans rfl
         have hcz40_2 : wr.cell? ⟨gb160, 2, none⟩ = some (.slice A0_2 l0_2.length c0_2) := (blk_cell BK160.out 2).trans rfl
         have hfz40_0 := blk_frozen BK160.out 0
         have hfz40_1 := blk_frozen BK160.out 1
         have hfz40_2 := blk_frozen BK160.out 2
         go_wp2_with (first | ((with_reducible refine gate_callee (f := 67) rfl ?_); refine goesL_ (some 69) rfl rfl Try.func67 (by kernel_rfl) rfl #[.agg #[.int .i64 a0_0, .int .i64 a0_1, .slice A0_2 l0_2.length c0_2], .int .i64 a3, .int .i64 a4, .int .i64 (rd y166 x61_3)] rfl zi3 ?_; (with_reducible refine (spec_crOn.calls a0_0 a0_1 _ _ l0_2 a3 a4 (rd y166 x61_3) true _ ?side1 ?side2 A37.out).mono ?_); (case side1 => exact zi4); (case side2 => exact HC0_2.out); rintro e w41 ⟨rfl, hb⟩; refine ⟨_, rfl, ?_⟩; have n0_ := Aside0.mk (Kd.R_below zi5 hb); have n1_ := Aside0.mk (blk_below (g := gb160) (o := .cells #[.int .i64 a0_0, .int .i64 a0_1, .slice A0_2 l0_2.length c0_2] 31 (0, 0)) zi2 hb); have n2_ := Aside0.mk (below_step zi1 hb); clear HO_59; clear BK160; clear HB; have HO_59 := n0_; have BK160 := n1_; have HB := n2_; clear n0_ n1_ n2_; (try clear hb); (try clear hb2); (try clear hk); (try clear hi); (try clear hna_); (try clear hnb_)))
         go_roundg k3
         case measure => have := HJ5.out; have := HK2.out; have := HK3.out; omega
         case rel => exact ⟨(wrap64 (x61_3 + 1)), zi8, H', ⟨by have := HJ5.out; have := HK2.out; have := HK3.out; omega⟩, ⟨zi5⟩, ⟨zi2⟩, ⟨zi1⟩⟩
        rw [if_neg c39] at H
        have c39b0 : ((rd y166 x61_3) == a3) = false := beq_eq_false_iff_ne.mpr c39
        have c39b1 : ((rd y166 x61_3) != a3) = true := bne_iff_ne.mpr c39
        by_cases c42 : (rd y166 x61_3) = a4
        rotate_left
        ·rw [if_neg c42] at H
         have c42b0 : ((rd y166 x61_3) == a4) = false := beq_eq_false_iff_ne.mpr c42
         have c42b1 : ((rd y166 x61_3) != a4) = true := bne_iff_ne.mpr c42
         obtain rfl := Option.some.inj H
         have p169 : 0 ≤ (x61_3 : Int) := of_decide_eq_true zi7
         have q169 : x61_3 < (y166.length : Int) := of_decide_eq_true zi7
         obtain ⟨ad169, e169, hx169_0⟩ := Kd.at_int (Kd.R_reads' HO_59.out).2.2 x61_3 p169 q169
         cases e169
         replace p169 := eq_true p169
         replace q169 := eq_true q169
         have hcz45_0 : wr.cell? ⟨gb160, 0, none⟩ = some (.int .i64 a0_0) := (blk_cell BK160.out 0).trans rfl
         have hcz45_1 : wr.cell? ⟨gb160, 1, none⟩ = some (.int .i64 a0_1) := (blk_cell BK160.out 1).trans rfl
         have hcz45_2 : wr.cell? ⟨gb160, 2, none⟩ = some (.slice A0_2 l0_2.length c0_2) := (blk_cell BK160.out 2).trans rfl
         have hfz45_0 := blk_frozen BK160.out 0
         have hfz45_1 := blk_frozen BK160.out 1
         have hfz45_2 := blk_frozen BK160.out 2
         go_wp2_with (first | ((with_reducible refine gate_callee (f := 67) rfl ?_); refine goesL_ (some 69) rfl rfl Try.func67 (by kernel_rfl) rfl #[.agg #[.int .i64 a0_0, .int .i64 a0_1, .slice A0_2 l0_2.length c0_2], .int .i64 a3, .int .i64 a4, .int .i64 (rd y166 x61_3)] rfl zi3 ?_; (with_reducible refine (spec_crOn.calls a0_0 a0_1 _ _ l0_2 a3 a4 (rd y166 x61_3) true _ ?side1 ?side2 A37.out).mono ?_); (case side1 => exact zi4); (case side2 => exact HC0_2.out); rintro e w46 ⟨rfl, hb⟩; refine ⟨_, rfl, ?_⟩; have n0_ := Aside0.mk (Kd.R_below zi5 hb); have n1_ := Aside0.mk (blk_below (g := gb160) (o := .cells #[.int .i64 a0_0, .int .i64 a0_1, .slice A0_2 l0_2.length c0_2] 31 (0, 0)) zi2 hb); have n2_ := Aside0.mk (below_step zi1 hb); clear HO_59; clear BK160; clear HB; have HO_59 := n0_; have BK160 := n1_; have HB := n2_; clear n0_ n1_ n2_; (try clear hb); (try clear hb2); (try clear hk); (try clear hi); (try clear hna_); (try clear hnb_)))
         go_ret
         exact ⟨zi9, zi1⟩
        rw [if_pos c42] at H
        have c42b0 : ((rd y166 x61_3) == a4) = true := beq_iff_eq.mpr c42
        have c42b1 : ((rd y166 x61_3) != a4) = false := bne_eq_false_iff_eq.mpr c42
        clear c42
        have H' := Aside0.mk H
        clear H
        have p169 : 0 ≤ (x61_3 : Int) := of_decide_eq_true zi7
        have q169 : x61_3 < (y166.length : Int) := of_decide_eq_true zi7
        obtain ⟨ad169, e169, hx169_0⟩ := Kd.at_int (Kd.R_reads' HO_59.out).2.2 x61_3 p169 q169
        cases e169
        replace p169 := eq_true p169
        replace q169 := eq_true q169
        have hcz43_0 : wr.cell? ⟨gb160, 0, none⟩ = some (.int .i64 a0_0) := (blk_cell BK160.out 0).trans rfl
        have hcz43_1 : wr.cell? ⟨gb160, 1, none⟩ = some (.int .i64 a0_1) := (blk_cell BK160.out 1).trans rfl
        have hcz43_2 : wr.cell? ⟨gb160, 2, none⟩ = some (.slice A0_2 l0_2.length c0_2) := (blk_cell BK160.out 2).trans rfl
        have hfz43_0 := blk_frozen BK160.out 0
        have hfz43_1 := blk_frozen BK160.out 1
        have hfz43_2 := blk_frozen BK160.out 2
        go_wp2_with (first | ((with_reducible refine gate_callee (f := 67) rfl ?_); refine goesL_ (some 69) rfl rfl Try.func67 (by kernel_rfl) rfl #[.agg #[.int .i64 a0_0, .int .i64 a0_1, .slice A0_2 l0_2.length c0_2], .int .i64 a3, .int .i64 a4, .int .i64 (rd y166 x61_3)] rfl zi3 ?_; (with_reducible refine (spec_crOn.calls a0_0 a0_1 _ _ l0_2 a3 a4 (rd y166 x61_3) true _ ?side1 ?side2 A37.out).mono ?_); (case side1 => exact zi4); (case side2 => exact HC0_2.out); rintro e w44 ⟨rfl, hb⟩; refine ⟨_, rfl, ?_⟩; have n0_ := Aside0.mk (Kd.R_below zi5 hb); have n1_ := Aside0.mk (blk_below (g := gb160) (o := .cells #[.int .i64 a0_0, .int .i64 a0_1, .slice A0_2 l0_2.length c0_2] 31 (0, 0)) zi2 hb); have n2_ := Aside0.mk (below_step zi1 hb); clear HO_59; clear BK160; clear HB; have HO_59 := n0_; have BK160 := n1_; have HB := n2_; clear n0_ n1_ n2_; (try clear hb); (try clear hb2); (try clear hk); (try clear hi); (try clear hna_); (try clear hnb_)))
        go_roundg k3
        case measure => have := HJ5.out; have := HK2.out; have := HK3.out; omega
        case rel => exact ⟨(wrap64 (x61_3 + 1)), zi8, H', ⟨by have := HJ5.out; have := HK2.out; have := HK3.out; omega⟩, ⟨zi5⟩, ⟨zi2⟩, ⟨zi1⟩⟩
       rw [if_neg c34] at H
       have c34b0 : decide (x61_3 < (y166.length : Int)) = false := decide_eq_false c34
       clear c34
       replace H := Option.bind_eq_some_iff.mp H
       obtain ⟨t171, A490, H⟩ := H
       replace H : ((spec_l1Sign.f t171).bind fun t172 => ((spec_crCross.f a0_0 a0_1 l0_2 a1 a2 a4).bind fun t173 => ((spec_l1Sign.f t173).bind fun t174 => (if (wrap64 (t172 * t174)) < 0 then ((spec_crCross.f a0_0 a0_1 l0_2 a3 a4 a1).bind fun t175 => ((spec_l1Sign.f t175).bind fun t176 => ((spec_crCross.f a0_0 a0_1 l0_2 a3 a4 a2).bind fun t177 => ((spec_l1Sign.f t177).bind fun t178 => (some (decide ((wrap64 (t176 * t178)) < 0))))))) else (some false))))) = some r := H
       have A49 := Aside0.mk A490
       clear A490
       replace H := Option.bind_eq_some_iff.mp H
       obtain ⟨t172, A500, H⟩ := H
       replace H : ((spec_crCross.f a0_0 a0_1 l0_2 a1 a2 a4).bind fun t173 => ((spec_l1Sign.f t173).bind fun t174 => (if (wrap64 (t172 * t174)) < 0 then ((spec_crCross.f a0_0 a0_1 l0_2 a3 a4 a1).bind fun t175 => ((spec_l1Sign.f t175).bind fun t176 => ((spec_crCross.f a0_0 a0_1 l0_2 a3 a4 a2).bind fun t177 => ((spec_l1Sign.f t177).bind fun t178 => (some (decide ((wrap64 (t176 * t178)) < 0))))))) else (some false)))) = some r := H
       have A50 := Aside0.mk A500
       clear A500
       replace H := Option.bind_eq_some_iff.mp H
       obtain ⟨t173, A510, H⟩ := H
       replace H : ((spec_l1Sign.f t173).bind fun t174 => (if (wrap64 (t172 * t174)) < 0 then ((spec_crCross.f a0_0 a0_1 l0_2 a3 a4 a1).bind fun t175 => ((spec_l1Sign.f t175).bind fun t176 => ((spec_crCross.f a0_0 a0_1 l0_2 a3 a4 a2).bind fun t177 => ((spec_l1Sign.f t177).bind fun t178 => (some (decide ((wrap64 (t176 * t178)) < 0))))))) else (some false))) = some r := H
       have A51 := Aside0.mk A510
       clear A510
       replace H := Option.bind_eq_some_iff.mp H
       obtain ⟨t174, A520, H⟩ := H
       replace H : (if (wrap64 (t172 * t174)) < 0 then ((spec_crCross.f a0_0 a0_1 l0_2 a3 a4 a1).bind fun t175 => ((spec_l1Sign.f t175).bind fun t176 => ((spec_crCross.f a0_0 a0_1 l0_2 a3 a4 a2).bind fun t177 => ((spec_l1Sign.f t177).bind fun t178 => (some (decide ((wrap64 (t176 * t178)) < 0))))))) else (some false)) = some r := H
       have A52 := Aside0.mk A520
       clear A520
       by_cases c53 : (wrap64 (t172 * t174)) < 0
       rotate_left
       ·rw [if_neg c53] at H
        have c53b0 : decide ((wrap64 (t172 * t174)) < 0) = false := decide_eq_false c53
        clear c53
        obtain rfl := Option.some.inj H
        try go_wp2
        have n0_ := Aside0.mk (Kd.R_drew HO_59.out)
        have n1_ := Aside0.mk (blk_drew BK160.out)
        have n2_ := Aside0.mk (below_drew1 HB.out)
        clear HO_59
        clear BK160
        clear HB
        have HO_59 := n0_
        have BK160 := n1_
        have HB := n2_
        clear n0_ n1_ n2_
        refine start_ (n := 31) (S := fun w' => w'.cell? ⟨gb160, 0, none⟩ = some (.int .i64 a0_0) ∧ w'.cell? ⟨gb160, 1, none⟩ = some (.int .i64 a0_1) ∧ w'.cell? ⟨gb160, 2, none⟩ = some (.slice A0_2 l0_2.length c0_2)) (ds := []) #[false, false, false, false, false, false, false, false, false, false, false, false, false, false, false, false, false, false, false, false, false, false, false, false, false, false, false, false, false, false, false] (by kernel_rfl) rfl rfl ⟨(blk_cell BK160.out 0).trans rfl, (blk_cell BK160.out 1).trans rfl, (blk_cell BK160.out 2).trans rfl⟩ (fun hHeld => ?_); refine with_tabW spec_crDo.tab15 spec_crDo.bits15 (fun HT_ HW_ => ?_)
        generalize wr.drew = w63 at HO_59 BK160 HB hHeld ⊢
        refine pure_ (i := 1) (N := some 82) (v := ?_) (a' := ?_) (bq 31 2) rfl rfl (any_of HT_.out (by kernel_rfl)) (fun _ _ _ h => h) (Or.inl ⟨by rfl, ?_⟩) ?_ ?_
        rotate_left
        ·intro w'
         go_simp
         with_reducible rfl
        rotate_left
        ·simp only [Act.put, List.setIfInBounds_toArray, List.set_cons_zero, List.set_cons_succ, i64_w, i32_w]
         rfl
        refine pure_ (i := 2) (N := some 83) (v := ?_) (a' := ?_) (bq 31 6) rfl rfl (any_of HT_.out (by kernel_rfl)) (fun _ _ _ h => h) (Or.inl ⟨by rfl, ?_⟩) ?_ ?_
        rotate_left
        ·intro w'
         go_simp
         with_reducible rfl
        rotate_left
        ·simp only [Act.put, List.setIfInBounds_toArray, List.set_cons_zero, List.set_cons_succ, i64_w, i32_w]
         rfl
        refine pure_ (i := 3) (N := some 84) (v := ?_) (a' := ?_) (bq 31 14) rfl rfl (any_of HT_.out (by kernel_rfl)) (fun _ _ _ h => h) (Or.inl ⟨by rfl, ?_⟩) ?_ ?_
        rotate_left
        ·intro w'
         go_simp
         with_reducible rfl
        rotate_left
        ·simp only [Act.put, List.setIfInBounds_toArray, List.set_cons_zero, List.set_cons_succ, i64_w, i32_w]
         rfl
        refine pure_ (i := 7) (N := some 88) (v := ?_) (a' := ?_) (bq 31 142) rfl rfl (any_of HT_.out (by kernel_rfl)) (fun _ _ _ h => h) (Or.inl ⟨by rfl, ?_⟩) ?_ ?_
        rotate_left
        ·intro w'
         go_simp
         with_reducible rfl
        rotate_left
        ·simp only [Act.put, List.setIfInBounds_toArray, List.set_cons_zero, List.set_cons_succ, i64_w, i32_w]
         rfl
        refine pure_ (i := 8) (N := some 89) (v := ?_) (a' := ?_) (bq 31 398) rfl rfl (any_of HT_.out (by kernel_rfl)) (fun _ _ _ h => h) (Or.inl ⟨by rfl, ?_⟩) ?_ ?_
        rotate_left
        ·intro w'
         go_simp
         with_reducible rfl
        rotate_left
        ·simp only [Act.put, List.setIfInBounds_toArray, List.set_cons_zero, List.set_cons_succ, i64_w, i32_w]
         rfl
        refine pure_ (i := 9) (N := some 90) (v := ?_) (a' := ?_) (bq 31 910) rfl rfl (any_of HT_.out (by kernel_rfl)) (fun _ _ _ h => h) (Or.inl ⟨by rfl, ?_⟩) ?_ ?_
        rotate_left
        ·intro w'
         go_simp
         with_reducible rfl
        rotate_left
        ·simp only [Act.put, List.setIfInBounds_toArray, List.set_cons_zero, List.set_cons_succ, i64_w, i32_w]
         rfl
        refine take_ (i := 0) (N := some 81) (v := ?_) (a' := ?_) (bq 31 911) rfl rfl (take_ofW HT_.out HW_.out (by kernel_rfl)) (fun _ _ _ h => h) (Or.inl ⟨by rfl, ?_⟩) hHeld ?_ ?_
        rotate_left
        ·rintro w' ⟨s0, s1, s2⟩
         go_simp
         with_reducible rfl
        rotate_left
        ·simp only [Act.put, List.setIfInBounds_toArray, List.set_cons_zero, List.set_cons_succ, i64_w, i32_w]
         rfl
        refine take_ (i := 6) (N := some 87) (v := ?_) (a' := ?_) (bq 31 975) rfl rfl (take_ofW HT_.out HW_.out (by kernel_rfl)) (fun _ _ _ h => h) (Or.inl ⟨by rfl, ?_⟩) hHeld ?_ ?_
        rotate_left
        ·rintro w' ⟨s0, s1, s2⟩
         go_simp
         with_reducible rfl
        rotate_left
        ·simp only [Act.put, List.setIfInBounds_toArray, List.set_cons_zero, List.set_cons_succ, i64_w, i32_w]
         rfl
        refine one_ (i := 4) (N := some 85) (bq 31 991) rfl rfl (one_of HT_.out (by kernel_rfl)) (by decide) (fun K hK => ?_)
        refine goes_ Try.func69 (by kernel_rfl) rfl #[.agg #[.int .i64 a0_0, .int .i64 a0_1, .slice A0_2 l0_2.length c0_2], .int .i64 a1, .int .i64 a2, .int .i64 a3] (by rfl) rfl rfl zi3 ?_
        with_reducible refine (spec_crCross.calls a0_0 a0_1 _ _ l0_2 a1 a2 a3 t171 _ ?side1 ?side2 A49.out).mono ?_
        (case side1 => exact zi4)
        (case side2 => exact HC0_2.out)
        rintro e w64 ⟨rfl, hb⟩
        refine ⟨_, rfl, ?_⟩
        have n0_ := Aside0.mk (Kd.R_below zi5 hb)
        have n1_ := Aside0.mk (blk_below (g := gb160) (o := .cells #[.int .i64 a0_0, .int .i64 a0_1, .slice A0_2 l0_2.length c0_2] 31 (0, 0)) zi2 hb)
        have n2_ := Aside0.mk (below_step zi1 hb)
        clear HO_59
        clear BK160
        clear HB
        have HO_59 := n0_
        have BK160 := n1_
        have HB := n2_
        clear n0_ n1_ n2_
        (try clear hb)
        (try clear hb2)
        (try clear hk)
        (try clear hi)
        (try clear hna_)
        (try clear hnb_)
        refine hK.out _ _ ⟨(blk_cell BK160.out 0).trans rfl, (blk_cell BK160.out 1).trans rfl, (blk_cell BK160.out 2).trans rfl⟩ (fun hHeld => ?_)
        clear hK K
        refine norm_ (a' := ?_) ?_ ?_
        rotate_left
        ·show Act.put _ (some 85) _ = _
         simp only [Act.put, List.setIfInBounds_toArray, List.set_cons_zero, List.set_cons_succ, i64_w, i32_w]
         rfl
        refine one_ (i := 5) (N := some 86) (bq 31 1023) rfl rfl (one_of HT_.out (by kernel_rfl)) (by decide) (fun K hK => ?_)
        refine goes_ Try.func68 (by kernel_rfl) rfl #[.int .i64 t171] (by rfl) rfl rfl zi3 ?_
        with_reducible refine (spec_l1Sign.calls t171 t172 _ A50.out).mono ?_
        rintro e w' ⟨rfl, ⟨nd, rfl⟩⟩
        refine ⟨_, rfl, ?_⟩
        refine hK.out _ _ ⟨(blk_cell BK160.out 0).trans rfl, (blk_cell BK160.out 1).trans rfl, (blk_cell BK160.out 2).trans rfl⟩ (fun hHeld => ?_)
        clear hK K
        refine norm_ (a' := ?_) ?_ ?_
        rotate_left
        ·show Act.put _ (some 86) _ = _
         simp only [Act.put, List.setIfInBounds_toArray, List.set_cons_zero, List.set_cons_succ, i64_w, i32_w]
         rfl
        refine one_ (i := 10) (N := some 91) (bq 31 2047) rfl rfl (one_of HT_.out (by kernel_rfl)) (by decide) (fun K hK => ?_)
        refine goes_ Try.func69 (by kernel_rfl) rfl #[.agg #[.int .i64 a0_0, .int .i64 a0_1, .slice A0_2 l0_2.length c0_2], .int .i64 a1, .int .i64 a2, .int .i64 a4] (by rfl) rfl rfl zi3 ?_
        with_reducible refine (spec_crCross.calls a0_0 a0_1 _ _ l0_2 a1 a2 a4 t173 _ ?side1 ?side2 A51.out).mono ?_
        (case side1 => exact zi12)
        (case side2 => exact HC0_2.out)
        rintro e w65 ⟨rfl, hb⟩
        refine ⟨_, rfl, ?_⟩
        have n0_ := Aside0.mk (Kd.R_below zi5 hb)
        have n1_ := Aside0.mk (blk_below (g := gb160) (o := .cells #[.int .i64 a0_0, .int .i64 a0_1, .slice A0_2 l0_2.length c0_2] 31 (0, 0)) zi2 hb)
        have n2_ := Aside0.mk (below_step zi1 hb)
        clear HO_59
        clear BK160
        clear HB
        have HO_59 := n0_
        have BK160 := n1_
        have HB := n2_
        clear n0_ n1_ n2_
        (try clear hb)
        (try clear hb2)
        (try clear hk)
        (try clear hi)
        (try clear hna_)
        (try clear hnb_)
        refine hK.out _ _ ⟨(blk_cell BK160.out 0).trans rfl, (blk_cell BK160.out 1).trans rfl, (blk_cell BK160.out 2).trans rfl⟩ (fun hHeld => ?_)
        clear hK K
        refine norm_ (a' := ?_) ?_ ?_
        rotate_left
        ·show Act.put _ (some 91) _ = _
         simp only [Act.put, List.setIfInBounds_toArray, List.set_cons_zero, List.set_cons_succ, i64_w, i32_w]
         rfl
        refine one_ (i := 11) (N := some 92) (bq 31 4095) rfl rfl (one_of HT_.out (by kernel_rfl)) (by decide) (fun K hK => ?_)
        refine goes_ Try.func68 (by kernel_rfl) rfl #[.int .i64 t173] (by rfl) rfl rfl zi3 ?_
        with_reducible refine (spec_l1Sign.calls t173 t174 _ A52.out).mono ?_
        rintro e w' ⟨rfl, ⟨nd, rfl⟩⟩
        refine ⟨_, rfl, ?_⟩
        refine hK.out _ _ ⟨(blk_cell BK160.out 0).trans rfl, (blk_cell BK160.out 1).trans rfl, (blk_cell BK160.out 2).trans rfl⟩ (fun hHeld => ?_)
        clear hK K
        refine norm_ (a' := ?_) ?_ ?_
        rotate_left
        ·show Act.put _ (some 92) _ = _
         simp only [Act.put, List.setIfInBounds_toArray, List.set_cons_zero, List.set_cons_succ, i64_w, i32_w]
         rfl
        refine pure_ (i := 12) (N := some 93) (v := ?_) (a' := ?_) (bq 31 8191) rfl rfl (any_of HT_.out (by kernel_rfl)) (fun _ _ _ h => h) (Or.inl ⟨by rfl, ?_⟩) ?_ ?_
        rotate_left
        ·intro w'
         go_simp
         with_reducible rfl
        rotate_left
        ·simp only [Act.put, List.setIfInBounds_toArray, List.set_cons_zero, List.set_cons_succ, i64_w, i32_w]
         rfl
        refine pure_ (i := 13) (N := some 94) (v := ?_) (a' := ?_) (bq 31 16383) rfl rfl (any_of HT_.out (by kernel_rfl)) (fun _ _ _ h => h) (Or.inl ⟨by rfl, ?_⟩) ?_ ?_
        rotate_left
        ·intro w'
         go_simp
         with_reducible rfl
        rotate_left
        ·simp only [Act.put, List.setIfInBounds_toArray, List.set_cons_zero, List.set_cons_succ, i64_w, i32_w]
         rfl
        refine pure_ (i := 14) (N := some 95) (v := ?_) (a' := ?_) (bq 31 32767) rfl rfl (any_of HT_.out (by kernel_rfl)) (fun _ _ _ h => h) (Or.inl ⟨by rfl, ?_⟩) ?_ ?_
        rotate_left
        ·intro w'
         go_simp
         with_reducible rfl
        rotate_left
        ·simp only [Act.put, List.setIfInBounds_toArray, List.set_cons_zero, List.set_cons_succ, i64_w, i32_w]
         rfl
        refine pure_ (i := 15) (N := some 96) (v := undef) (a' := ?_) (bq 31 65535) rfl rfl (any_of HT_.out (by kernel_rfl)) (fun _ _ _ h => h) (Or.inr ⟨by rfl, rfl⟩) ?_ ?_
        rotate_left
        ·simp only [Act.put, List.setIfInBounds_toArray, List.set_cons_zero, List.set_cons_succ, i64_w, i32_w]
         rfl
        refine pure_ (i := 16) (N := some 97) (v := undef) (a' := ?_) (bq 31 131071) rfl rfl (any_of HT_.out (by kernel_rfl)) (fun _ _ _ h => h) (Or.inr ⟨by rfl, rfl⟩) ?_ ?_
        rotate_left
        ·simp only [Act.put, List.setIfInBounds_toArray, List.set_cons_zero, List.set_cons_succ, i64_w, i32_w]
         rfl
        refine pure_ (i := 17) (N := some 98) (v := undef) (a' := ?_) (bq 31 262143) rfl rfl (any_of HT_.out (by kernel_rfl)) (fun _ _ _ h => h) (Or.inr ⟨by rfl, rfl⟩) ?_ ?_
        rotate_left
        ·simp only [Act.put, List.setIfInBounds_toArray, List.set_cons_zero, List.set_cons_succ, i64_w, i32_w]
         rfl
        refine pure_ (i := 18) (N := some 99) (v := undef) (a' := ?_) (bq 31 524287) rfl rfl (any_of HT_.out (by kernel_rfl)) (fun _ _ _ h => h) (Or.inr ⟨by rfl, rfl⟩) ?_ ?_
        rotate_left
        ·simp only [Act.put, List.setIfInBounds_toArray, List.set_cons_zero, List.set_cons_succ, i64_w, i32_w]
         rfl
        refine pure_ (i := 19) (N := some 100) (v := undef) (a' := ?_) (bq 31 1048575) rfl rfl (any_of HT_.out (by kernel_rfl)) (fun _ _ _ h => h) (Or.inr ⟨by rfl, rfl⟩) ?_ ?_
        rotate_left
        ·simp only [Act.put, List.setIfInBounds_toArray, List.set_cons_zero, List.set_cons_succ, i64_w, i32_w]
         rfl
        refine pure_ (i := 20) (N := some 101) (v := undef) (a' := ?_) (bq 31 2097151) rfl rfl (any_of HT_.out (by kernel_rfl)) (fun _ _ _ h => h) (Or.inr ⟨by rfl, rfl⟩) ?_ ?_
        rotate_left
        ·simp only [Act.put, List.setIfInBounds_toArray, List.set_cons_zero, List.set_cons_succ, i64_w, i32_w]
         rfl
        refine pure_ (i := 21) (N := some 102) (v := undef) (a' := ?_) (bq 31 4194303) rfl rfl (any_of HT_.out (by kernel_rfl)) (fun _ _ _ h => h) (Or.inr ⟨by rfl, rfl⟩) ?_ ?_
        rotate_left
        ·simp only [Act.put, List.setIfInBounds_toArray, List.set_cons_zero, List.set_cons_succ, i64_w, i32_w]
         rfl
        refine pure_ (i := 22) (N := some 103) (v := undef) (a' := ?_) (bq 31 8388607) rfl rfl (any_of HT_.out (by kernel_rfl)) (fun _ _ _ h => h) (Or.inr ⟨by rfl, rfl⟩) ?_ ?_
        rotate_left
        ·simp only [Act.put, List.setIfInBounds_toArray, List.set_cons_zero, List.set_cons_succ, i64_w, i32_w]
         rfl
        refine pure_ (i := 23) (N := some 104) (v := undef) (a' := ?_) (bq 31 16777215) rfl rfl (any_of HT_.out (by kernel_rfl)) (fun _ _ _ h => h) (Or.inr ⟨by rfl, rfl⟩) ?_ ?_
        rotate_left
        ·simp only [Act.put, List.setIfInBounds_toArray, List.set_cons_zero, List.set_cons_succ, i64_w, i32_w]
         rfl
        refine pure_ (i := 24) (N := some 105) (v := undef) (a' := ?_) (bq 31 33554431) rfl rfl (any_of HT_.out (by kernel_rfl)) (fun _ _ _ h => h) (Or.inr ⟨by rfl, rfl⟩) ?_ ?_
        rotate_left
        ·simp only [Act.put, List.setIfInBounds_toArray, List.set_cons_zero, List.set_cons_succ, i64_w, i32_w]
         rfl
        refine pure_ (i := 25) (N := some 106) (v := undef) (a' := ?_) (bq 31 67108863) rfl rfl (any_of HT_.out (by kernel_rfl)) (fun _ _ _ h => h) (Or.inr ⟨by rfl, rfl⟩) ?_ ?_
        rotate_left
        ·simp only [Act.put, List.setIfInBounds_toArray, List.set_cons_zero, List.set_cons_succ, i64_w, i32_w]
         rfl
        refine pure_ (i := 26) (N := some 107) (v := undef) (a' := ?_) (bq 31 134217727) rfl rfl (any_of HT_.out (by kernel_rfl)) (fun _ _ _ h => h) (Or.inr ⟨by rfl, rfl⟩) ?_ ?_
        rotate_left
        ·simp only [Act.put, List.setIfInBounds_toArray, List.set_cons_zero, List.set_cons_succ, i64_w, i32_w]
         rfl
        refine pure_ (i := 27) (N := some 108) (v := undef) (a' := ?_) (bq 31 268435455) rfl rfl (any_of HT_.out (by kernel_rfl)) (fun _ _ _ h => h) (Or.inr ⟨by rfl, rfl⟩) ?_ ?_
        rotate_left
        ·simp only [Act.put, List.setIfInBounds_toArray, List.set_cons_zero, List.set_cons_succ, i64_w, i32_w]
         rfl
        refine pure_ (i := 28) (N := some 109) (v := undef) (a' := ?_) (bq 31 536870911) rfl rfl (any_of HT_.out (by kernel_rfl)) (fun _ _ _ h => h) (Or.inr ⟨by rfl, rfl⟩) ?_ ?_
        rotate_left
        ·simp only [Act.put, List.setIfInBounds_toArray, List.set_cons_zero, List.set_cons_succ, i64_w, i32_w]
         rfl
        refine pure_ (i := 29) (N := some 110) (v := ?_) (a' := ?_) (bq 31 1073741823) rfl rfl (any_of HT_.out (by kernel_rfl)) (fun _ _ _ h => h) (Or.inl ⟨by rfl, ?_⟩) ?_ ?_
        rotate_left
        ·intro w'
         go_simp
         with_reducible rfl
        rotate_left
        ·simp only [Act.put, List.setIfInBounds_toArray, List.set_cons_zero, List.set_cons_succ, i64_w, i32_w]
         rfl
        refine pure_ (i := 30) (N := some 10) (v := ?_) (a' := ?_) (bq 31 2147483647) rfl rfl (any_of HT_.out (by kernel_rfl)) (fun _ _ _ h => h) (Or.inl ⟨by rfl, ?_⟩) ?_ ?_
        rotate_left
        ·intro w'
         go_simp
         with_reducible rfl
        rotate_left
        ·simp only [Act.put, List.setIfInBounds_toArray, List.set_cons_zero, List.set_cons_succ, i64_w, i32_w]
         rfl
        refine done_ (done_of HT_.out (by kernel_rfl)) ?_
        try go_wp2
        go_ret
        exact ⟨zi9, zi1⟩
       rw [if_pos c53] at H
       have c53b0 : decide ((wrap64 (t172 * t174)) < 0) = true := decide_eq_true c53
       clear c53
       replace H := Option.bind_eq_some_iff.mp H
       obtain ⟨t175, A540, H⟩ := H
       replace H : ((spec_l1Sign.f t175).bind fun t176 => ((spec_crCross.f a0_0 a0_1 l0_2 a3 a4 a2).bind fun t177 => ((spec_l1Sign.f t177).bind fun t178 => (some (decide ((wrap64 (t176 * t178)) < 0)))))) = some r := H
       have A54 := Aside0.mk A540
       clear A540
       replace H := Option.bind_eq_some_iff.mp H
       obtain ⟨t176, A550, H⟩ := H
       replace H : ((spec_crCross.f a0_0 a0_1 l0_2 a3 a4 a2).bind fun t177 => ((spec_l1Sign.f t177).bind fun t178 => (some (decide ((wrap64 (t176 * t178)) < 0))))) = some r := H
       have A55 := Aside0.mk A550
       clear A550
       replace H := Option.bind_eq_some_iff.mp H
       obtain ⟨t177, A560, H⟩ := H
       replace H : ((spec_l1Sign.f t177).bind fun t178 => (some (decide ((wrap64 (t176 * t178)) < 0)))) = some r := H
       have A56 := Aside0.mk A560
       clear A560
       replace H := Option.bind_eq_some_iff.mp H
       obtain ⟨t178, A570, H⟩ := H
       replace H : (some (decide ((wrap64 (t176 * t178)) < 0))) = some r := H
       have A57 := Aside0.mk A570
       clear A570
       obtain rfl := Option.some.inj H
       try go_wp2
       have n0_ := Aside0.mk (Kd.R_drew HO_59.out)
       have n1_ := Aside0.mk (blk_drew BK160.out)
       have n2_ := Aside0.mk (below_drew1 HB.out)
       clear HO_59
       clear BK160
       clear HB
       have HO_59 := n0_
       have BK160 := n1_
       have HB := n2_
       clear n0_ n1_ n2_
       refine start_ (n := 31) (S := fun w' => w'.cell? ⟨gb160, 0, none⟩ = some (.int .i64 a0_0) ∧ w'.cell? ⟨gb160, 1, none⟩ = some (.int .i64 a0_1) ∧ w'.cell? ⟨gb160, 2, none⟩ = some (.slice A0_2 l0_2.length c0_2)) (ds := []) #[false, false, false, false, false, false, false, false, false, false, false, false, false, false, false, false, false, false, false, false, false, false, false, false, false, false, false, false, false, false, false] (by kernel_rfl) rfl rfl ⟨(blk_cell BK160.out 0).trans rfl, (blk_cell BK160.out 1).trans rfl, (blk_cell BK160.out 2).trans rfl⟩ (fun hHeld => ?_); refine with_tabW spec_crDo.tab15 spec_crDo.bits15 (fun HT_ HW_ => ?_)
       generalize wr.drew = w58 at HO_59 BK160 HB hHeld ⊢
       refine pure_ (i := 1) (N := some 82) (v := ?_) (a' := ?_) (bq 31 2) rfl rfl (any_of HT_.out (by kernel_rfl)) (fun _ _ _ h => h) (Or.inl ⟨by rfl, ?_⟩) ?_ ?_
       rotate_left
       ·intro w'
        go_simp
        with_reducible rfl
       rotate_left
       ·simp only [Act.put, List.setIfInBounds_toArray, List.set_cons_zero, List.set_cons_succ, i64_w, i32_w]
        rfl
       refine pure_ (i := 2) (N := some 83) (v := ?_) (a' := ?_) (bq 31 6) rfl rfl (any_of HT_.out (by kernel_rfl)) (fun _ _ _ h => h) (Or.inl ⟨by rfl, ?_⟩) ?_ ?_
       rotate_left
       ·intro w'
        go_simp
        with_reducible rfl
       rotate_left
       ·simp only [Act.put, List.setIfInBounds_toArray, List.set_cons_zero, List.set_cons_succ, i64_w, i32_w]
        rfl
       refine pure_ (i := 3) (N := some 84) (v := ?_) (a' := ?_) (bq 31 14) rfl rfl (any_of HT_.out (by kernel_rfl)) (fun _ _ _ h => h) (Or.inl ⟨by rfl, ?_⟩) ?_ ?_
       rotate_left
       ·intro w'
        go_simp
        with_reducible rfl
       rotate_left
       ·simp only [Act.put, List.setIfInBounds_toArray, List.set_cons_zero, List.set_cons_succ, i64_w, i32_w]
        rfl
       refine pure_ (i := 7) (N := some 88) (v := ?_) (a' := ?_) (bq 31 142) rfl rfl (any_of HT_.out (by kernel_rfl)) (fun _ _ _ h => h) (Or.inl ⟨by rfl, ?_⟩) ?_ ?_
       rotate_left
       ·intro w'
        go_simp
        with_reducible rfl
       rotate_left
       ·simp only [Act.put, List.setIfInBounds_toArray, List.set_cons_zero, List.set_cons_succ, i64_w, i32_w]
        rfl
       refine pure_ (i := 8) (N := some 89) (v := ?_) (a' := ?_) (bq 31 398) rfl rfl (any_of HT_.out (by kernel_rfl)) (fun _ _ _ h => h) (Or.inl ⟨by rfl, ?_⟩) ?_ ?_
       rotate_left
       ·intro w'
        go_simp
        with_reducible rfl
       rotate_left
       ·simp only [Act.put, List.setIfInBounds_toArray, List.set_cons_zero, List.set_cons_succ, i64_w, i32_w]
        rfl
       refine pure_ (i := 9) (N := some 90) (v := ?_) (a' := ?_) (bq 31 910) rfl rfl (any_of HT_.out (by kernel_rfl)) (fun _ _ _ h => h) (Or.inl ⟨by rfl, ?_⟩) ?_ ?_
       rotate_left
       ·intro w'
        go_simp
        with_reducible rfl
       rotate_left
       ·simp only [Act.put, List.setIfInBounds_toArray, List.set_cons_zero, List.set_cons_succ, i64_w, i32_w]
        rfl
       refine take_ (i := 0) (N := some 81) (v := ?_) (a' := ?_) (bq 31 911) rfl rfl (take_ofW HT_.out HW_.out (by kernel_rfl)) (fun _ _ _ h => h) (Or.inl ⟨by rfl, ?_⟩) hHeld ?_ ?_
       rotate_left
       ·rintro w' ⟨s0, s1, s2⟩
        go_simp
        with_reducible rfl
       rotate_left
       ·simp only [Act.put, List.setIfInBounds_toArray, List.set_cons_zero, List.set_cons_succ, i64_w, i32_w]
        rfl
       refine take_ (i := 6) (N := some 87) (v := ?_) (a' := ?_) (bq 31 975) rfl rfl (take_ofW HT_.out HW_.out (by kernel_rfl)) (fun _ _ _ h => h) (Or.inl ⟨by rfl, ?_⟩) hHeld ?_ ?_
       rotate_left
       ·rintro w' ⟨s0, s1, s2⟩
        go_simp
        with_reducible rfl
       rotate_left
       ·simp only [Act.put, List.setIfInBounds_toArray, List.set_cons_zero, List.set_cons_succ, i64_w, i32_w]
        rfl
       refine one_ (i := 4) (N := some 85) (bq 31 991) rfl rfl (one_of HT_.out (by kernel_rfl)) (by decide) (fun K hK => ?_)
       refine goes_ Try.func69 (by kernel_rfl) rfl #[.agg #[.int .i64 a0_0, .int .i64 a0_1, .slice A0_2 l0_2.length c0_2], .int .i64 a1, .int .i64 a2, .int .i64 a3] (by rfl) rfl rfl zi3 ?_
       with_reducible refine (spec_crCross.calls a0_0 a0_1 _ _ l0_2 a1 a2 a3 t171 _ ?side1 ?side2 A49.out).mono ?_
       (case side1 => exact zi4)
       (case side2 => exact HC0_2.out)
       rintro e w59 ⟨rfl, hb⟩
       refine ⟨_, rfl, ?_⟩
       have n0_ := Aside0.mk (Kd.R_below zi5 hb)
       have n1_ := Aside0.mk (blk_below (g := gb160) (o := .cells #[.int .i64 a0_0, .int .i64 a0_1, .slice A0_2 l0_2.length c0_2] 31 (0, 0)) zi2 hb)
       have n2_ := Aside0.mk (below_step zi1 hb)
       clear HO_59
       clear BK160
       clear HB
       have HO_59 := n0_
       have BK160 := n1_
       have HB := n2_
       clear n0_ n1_ n2_
       (try clear hb)
       (try clear hb2)
       (try clear hk)
       (try clear hi)
       (try clear hna_)
       (try clear hnb_)
       refine hK.out _ _ ⟨(blk_cell BK160.out 0).trans rfl, (blk_cell BK160.out 1).trans rfl, (blk_cell BK160.out 2).trans rfl⟩ (fun hHeld => ?_)
       clear hK K
       refine norm_ (a' := ?_) ?_ ?_
       rotate_left
       ·show Act.put _ (some 85) _ = _
        simp only [Act.put, List.setIfInBounds_toArray, List.set_cons_zero, List.set_cons_succ, i64_w, i32_w]
        rfl
       refine one_ (i := 5) (N := some 86) (bq 31 1023) rfl rfl (one_of HT_.out (by kernel_rfl)) (by decide) (fun K hK => ?_)
       refine goes_ Try.func68 (by kernel_rfl) rfl #[.int .i64 t171] (by rfl) rfl rfl zi3 ?_
       with_reducible refine (spec_l1Sign.calls t171 t172 _ A50.out).mono ?_
       rintro e w' ⟨rfl, ⟨nd, rfl⟩⟩
       refine ⟨_, rfl, ?_⟩
       refine hK.out _ _ ⟨(blk_cell BK160.out 0).trans rfl, (blk_cell BK160.out 1).trans rfl, (blk_cell BK160.out 2).trans rfl⟩ (fun hHeld => ?_)
       clear hK K
       refine norm_ (a' := ?_) ?_ ?_
       rotate_left
       ·show Act.put _ (some 86) _ = _
        simp only [Act.put, List.setIfInBounds_toArray, List.set_cons_zero, List.set_cons_succ, i64_w, i32_w]
        rfl
       refine one_ (i := 10) (N := some 91) (bq 31 2047) rfl rfl (one_of HT_.out (by kernel_rfl)) (by decide) (fun K hK => ?_)
       refine goes_ Try.func69 (by kernel_rfl) rfl #[.agg #[.int .i64 a0_0, .int .i64 a0_1, .slice A0_2 l0_2.length c0_2], .int .i64 a1, .int .i64 a2, .int .i64 a4] (by rfl) rfl rfl zi3 ?_
       with_reducible refine (spec_crCross.calls a0_0 a0_1 _ _ l0_2 a1 a2 a4 t173 _ ?side1 ?side2 A51.out).mono ?_
       (case side1 => exact zi12)
       (case side2 => exact HC0_2.out)
       rintro e w60 ⟨rfl, hb⟩
       refine ⟨_, rfl, ?_⟩
       have n0_ := Aside0.mk (Kd.R_below zi5 hb)
       have n1_ := Aside0.mk (blk_below (g := gb160) (o := .cells #[.int .i64 a0_0, .int .i64 a0_1, .slice A0_2 l0_2.length c0_2] 31 (0, 0)) zi2 hb)
       have n2_ := Aside0.mk (below_step zi1 hb)
       clear HO_59
       clear BK160
       clear HB
       have HO_59 := n0_
       have BK160 := n1_
       have HB := n2_
       clear n0_ n1_ n2_
       (try clear hb)
       (try clear hb2)
       (try clear hk)
       (try clear hi)
       (try clear hna_)
       (try clear hnb_)
       refine hK.out _ _ ⟨(blk_cell BK160.out 0).trans rfl, (blk_cell BK160.out 1).trans rfl, (blk_cell BK160.out 2).trans rfl⟩ (fun hHeld => ?_)
       clear hK K
       refine norm_ (a' := ?_) ?_ ?_
       rotate_left
       ·show Act.put _ (some 91) _ = _
        simp only [Act.put, List.setIfInBounds_toArray, List.set_cons_zero, List.set_cons_succ, i64_w, i32_w]
        rfl
       refine one_ (i := 11) (N := some 92) (bq 31 4095) rfl rfl (one_of HT_.out (by kernel_rfl)) (by decide) (fun K hK => ?_)
       refine goes_ Try.func68 (by kernel_rfl) rfl #[.int .i64 t173] (by rfl) rfl rfl zi3 ?_
       with_reducible refine (spec_l1Sign.calls t173 t174 _ A52.out).mono ?_
       rintro e w' ⟨rfl, ⟨nd, rfl⟩⟩
       refine ⟨_, rfl, ?_⟩
       refine hK.out _ _ ⟨(blk_cell BK160.out 0).trans rfl, (blk_cell BK160.out 1).trans rfl, (blk_cell BK160.out 2).trans rfl⟩ (fun hHeld => ?_)
       clear hK K
       refine norm_ (a' := ?_) ?_ ?_
       rotate_left
       ·show Act.put _ (some 92) _ = _
        simp only [Act.put, List.setIfInBounds_toArray, List.set_cons_zero, List.set_cons_succ, i64_w, i32_w]
        rfl
       refine pure_ (i := 12) (N := some 93) (v := ?_) (a' := ?_) (bq 31 8191) rfl rfl (any_of HT_.out (by kernel_rfl)) (fun _ _ _ h => h) (Or.inl ⟨by rfl, ?_⟩) ?_ ?_
       rotate_left
       ·intro w'
        go_simp
        with_reducible rfl
       rotate_left
       ·simp only [Act.put, List.setIfInBounds_toArray, List.set_cons_zero, List.set_cons_succ, i64_w, i32_w]
        rfl
       refine pure_ (i := 13) (N := some 94) (v := ?_) (a' := ?_) (bq 31 16383) rfl rfl (any_of HT_.out (by kernel_rfl)) (fun _ _ _ h => h) (Or.inl ⟨by rfl, ?_⟩) ?_ ?_
       rotate_left
       ·intro w'
        go_simp
        with_reducible rfl
       rotate_left
       ·simp only [Act.put, List.setIfInBounds_toArray, List.set_cons_zero, List.set_cons_succ, i64_w, i32_w]
        rfl
       refine pure_ (i := 14) (N := some 95) (v := ?_) (a' := ?_) (bq 31 32767) rfl rfl (any_of HT_.out (by kernel_rfl)) (fun _ _ _ h => h) (Or.inl ⟨by rfl, ?_⟩) ?_ ?_
       rotate_left
       ·intro w'
        go_simp
        with_reducible rfl
       rotate_left
       ·simp only [Act.put, List.setIfInBounds_toArray, List.set_cons_zero, List.set_cons_succ, i64_w, i32_w]
        rfl
       refine pure_ (i := 16) (N := some 97) (v := ?_) (a' := ?_) (bq 31 98303) rfl rfl (any_of HT_.out (by kernel_rfl)) (fun _ _ _ h => h) (Or.inl ⟨by rfl, ?_⟩) ?_ ?_
       rotate_left
       ·intro w'
        go_simp
        with_reducible rfl
       rotate_left
       ·simp only [Act.put, List.setIfInBounds_toArray, List.set_cons_zero, List.set_cons_succ, i64_w, i32_w]
        rfl
       refine pure_ (i := 17) (N := some 98) (v := ?_) (a' := ?_) (bq 31 229375) rfl rfl (any_of HT_.out (by kernel_rfl)) (fun _ _ _ h => h) (Or.inl ⟨by rfl, ?_⟩) ?_ ?_
       rotate_left
       ·intro w'
        go_simp
        with_reducible rfl
       rotate_left
       ·simp only [Act.put, List.setIfInBounds_toArray, List.set_cons_zero, List.set_cons_succ, i64_w, i32_w]
        rfl
       refine pure_ (i := 18) (N := some 99) (v := ?_) (a' := ?_) (bq 31 491519) rfl rfl (any_of HT_.out (by kernel_rfl)) (fun _ _ _ h => h) (Or.inl ⟨by rfl, ?_⟩) ?_ ?_
       rotate_left
       ·intro w'
        go_simp
        with_reducible rfl
       rotate_left
       ·simp only [Act.put, List.setIfInBounds_toArray, List.set_cons_zero, List.set_cons_succ, i64_w, i32_w]
        rfl
       refine pure_ (i := 22) (N := some 103) (v := ?_) (a' := ?_) (bq 31 4685823) rfl rfl (any_of HT_.out (by kernel_rfl)) (fun _ _ _ h => h) (Or.inl ⟨by rfl, ?_⟩) ?_ ?_
       rotate_left
       ·intro w'
        go_simp
        with_reducible rfl
       rotate_left
       ·simp only [Act.put, List.setIfInBounds_toArray, List.set_cons_zero, List.set_cons_succ, i64_w, i32_w]
        rfl
       refine pure_ (i := 23) (N := some 104) (v := ?_) (a' := ?_) (bq 31 13074431) rfl rfl (any_of HT_.out (by kernel_rfl)) (fun _ _ _ h => h) (Or.inl ⟨by rfl, ?_⟩) ?_ ?_
       rotate_left
       ·intro w'
        go_simp
        with_reducible rfl
       rotate_left
       ·simp only [Act.put, List.setIfInBounds_toArray, List.set_cons_zero, List.set_cons_succ, i64_w, i32_w]
        rfl
       refine pure_ (i := 24) (N := some 105) (v := ?_) (a' := ?_) (bq 31 29851647) rfl rfl (any_of HT_.out (by kernel_rfl)) (fun _ _ _ h => h) (Or.inl ⟨by rfl, ?_⟩) ?_ ?_
       rotate_left
       ·intro w'
        go_simp
        with_reducible rfl
       rotate_left
       ·simp only [Act.put, List.setIfInBounds_toArray, List.set_cons_zero, List.set_cons_succ, i64_w, i32_w]
        rfl
       refine take_ (i := 15) (N := some 96) (v := ?_) (a' := ?_) (bq 31 29884415) rfl rfl (take_ofW HT_.out HW_.out (by kernel_rfl)) (fun _ _ _ h => h) (Or.inl ⟨by rfl, ?_⟩) hHeld ?_ ?_
       rotate_left
       ·rintro w' ⟨s0, s1, s2⟩
        go_simp
        with_reducible rfl
       rotate_left
       ·simp only [Act.put, List.setIfInBounds_toArray, List.set_cons_zero, List.set_cons_succ, i64_w, i32_w]
        rfl
       refine take_ (i := 21) (N := some 102) (v := ?_) (a' := ?_) (bq 31 31981567) rfl rfl (take_ofW HT_.out HW_.out (by kernel_rfl)) (fun _ _ _ h => h) (Or.inl ⟨by rfl, ?_⟩) hHeld ?_ ?_
       rotate_left
       ·rintro w' ⟨s0, s1, s2⟩
        go_simp
        with_reducible rfl
       rotate_left
       ·simp only [Act.put, List.setIfInBounds_toArray, List.set_cons_zero, List.set_cons_succ, i64_w, i32_w]
        rfl
       refine one_ (i := 19) (N := some 100) (bq 31 32505855) rfl rfl (one_of HT_.out (by kernel_rfl)) (by decide) (fun K hK => ?_)
       refine goes_ Try.func69 (by kernel_rfl) rfl #[.agg #[.int .i64 a0_0, .int .i64 a0_1, .slice A0_2 l0_2.length c0_2], .int .i64 a3, .int .i64 a4, .int .i64 a1] (by rfl) rfl rfl zi3 ?_
       with_reducible refine (spec_crCross.calls a0_0 a0_1 _ _ l0_2 a3 a4 a1 t175 _ ?side1 ?side2 A54.out).mono ?_
       (case side1 => exact zi12)
       (case side2 => exact HC0_2.out)
       rintro e w61 ⟨rfl, hb⟩
       refine ⟨_, rfl, ?_⟩
       have n0_ := Aside0.mk (Kd.R_below zi5 hb)
       have n1_ := Aside0.mk (blk_below (g := gb160) (o := .cells #[.int .i64 a0_0, .int .i64 a0_1, .slice A0_2 l0_2.length c0_2] 31 (0, 0)) zi2 hb)
       have n2_ := Aside0.mk (below_step zi1 hb)
       clear HO_59
       clear BK160
       clear HB
       have HO_59 := n0_
       have BK160 := n1_
       have HB := n2_
       clear n0_ n1_ n2_
       (try clear hb)
       (try clear hb2)
       (try clear hk)
       (try clear hi)
       (try clear hna_)
       (try clear hnb_)
       refine hK.out _ _ ⟨(blk_cell BK160.out 0).trans rfl, (blk_cell BK160.out 1).trans rfl, (blk_cell BK160.out 2).trans rfl⟩ (fun hHeld => ?_)
       clear hK K
       refine norm_ (a' := ?_) ?_ ?_
       rotate_left
       ·show Act.put _ (some 100) _ = _
        simp only [Act.put, List.setIfInBounds_toArray, List.set_cons_zero, List.set_cons_succ, i64_w, i32_w]
        rfl
       refine one_ (i := 20) (N := some 101) (bq 31 33554431) rfl rfl (one_of HT_.out (by kernel_rfl)) (by decide) (fun K hK => ?_)
       refine goes_ Try.func68 (by kernel_rfl) rfl #[.int .i64 t175] (by rfl) rfl rfl zi3 ?_
       with_reducible refine (spec_l1Sign.calls t175 t176 _ A55.out).mono ?_
       rintro e w' ⟨rfl, ⟨nd, rfl⟩⟩
       refine ⟨_, rfl, ?_⟩
       refine hK.out _ _ ⟨(blk_cell BK160.out 0).trans rfl, (blk_cell BK160.out 1).trans rfl, (blk_cell BK160.out 2).trans rfl⟩ (fun hHeld => ?_)
       clear hK K
       refine norm_ (a' := ?_) ?_ ?_
       rotate_left
       ·show Act.put _ (some 101) _ = _
        simp only [Act.put, List.setIfInBounds_toArray, List.set_cons_zero, List.set_cons_succ, i64_w, i32_w]
        rfl
       refine one_ (i := 25) (N := some 106) (bq 31 67108863) rfl rfl (one_of HT_.out (by kernel_rfl)) (by decide) (fun K hK => ?_)
       refine goes_ Try.func69 (by kernel_rfl) rfl #[.agg #[.int .i64 a0_0, .int .i64 a0_1, .slice A0_2 l0_2.length c0_2], .int .i64 a3, .int .i64 a4, .int .i64 a2] (by rfl) rfl rfl zi3 ?_
       with_reducible refine (spec_crCross.calls a0_0 a0_1 _ _ l0_2 a3 a4 a2 t177 _ ?side1 ?side2 A56.out).mono ?_
       (case side1 => exact zi12)
       (case side2 => exact HC0_2.out)
       rintro e w62 ⟨rfl, hb⟩
       refine ⟨_, rfl, ?_⟩
       have n0_ := Aside0.mk (Kd.R_below zi5 hb)
       have n1_ := Aside0.mk (blk_below (g := gb160) (o := .cells #[.int .i64 a0_0, .int .i64 a0_1, .slice A0_2 l0_2.length c0_2] 31 (0, 0)) zi2 hb)
       have n2_ := Aside0.mk (below_step zi1 hb)
       clear HO_59
       clear BK160
       clear HB
       have HO_59 := n0_
       have BK160 := n1_
       have HB := n2_
       clear n0_ n1_ n2_
       (try clear hb)
       (try clear hb2)
       (try clear hk)
       (try clear hi)
       (try clear hna_)
       (try clear hnb_)
       refine hK.out _ _ ⟨(blk_cell BK160.out 0).trans rfl, (blk_cell BK160.out 1).trans rfl, (blk_cell BK160.out 2).trans rfl⟩ (fun hHeld => ?_)
       clear hK K
       refine norm_ (a' := ?_) ?_ ?_
       rotate_left
       ·show Act.put _ (some 106) _ = _
        simp only [Act.put, List.setIfInBounds_toArray, List.set_cons_zero, List.set_cons_succ, i64_w, i32_w]
        rfl
       refine one_ (i := 26) (N := some 107) (bq 31 134217727) rfl rfl (one_of HT_.out (by kernel_rfl)) (by decide) (fun K hK => ?_)
       refine goes_ Try.func68 (by kernel_rfl) rfl #[.int .i64 t177] (by rfl) rfl rfl zi3 ?_
       with_reducible refine (spec_l1Sign.calls t177 t178 _ A57.out).mono ?_
       rintro e w' ⟨rfl, ⟨nd, rfl⟩⟩
       refine ⟨_, rfl, ?_⟩
       refine hK.out _ _ ⟨(blk_cell BK160.out 0).trans rfl, (blk_cell BK160.out 1).trans rfl, (blk_cell BK160.out 2).trans rfl⟩ (fun hHeld => ?_)
       clear hK K
       refine norm_ (a' := ?_) ?_ ?_
       rotate_left
       ·show Act.put _ (some 107) _ = _
        simp only [Act.put, List.setIfInBounds_toArray, List.set_cons_zero, List.set_cons_succ, i64_w, i32_w]
        rfl
       refine pure_ (i := 27) (N := some 108) (v := ?_) (a' := ?_) (bq 31 268435455) rfl rfl (any_of HT_.out (by kernel_rfl)) (fun _ _ _ h => h) (Or.inl ⟨by rfl, ?_⟩) ?_ ?_
       rotate_left
       ·intro w'
        go_simp
        with_reducible rfl
       rotate_left
       ·simp only [Act.put, List.setIfInBounds_toArray, List.set_cons_zero, List.set_cons_succ, i64_w, i32_w]
        rfl
       refine pure_ (i := 28) (N := some 109) (v := ?_) (a' := ?_) (bq 31 536870911) rfl rfl (any_of HT_.out (by kernel_rfl)) (fun _ _ _ h => h) (Or.inl ⟨by rfl, ?_⟩) ?_ ?_
       rotate_left
       ·intro w'
        go_simp
        with_reducible rfl
       rotate_left
       ·simp only [Act.put, List.setIfInBounds_toArray, List.set_cons_zero, List.set_cons_succ, i64_w, i32_w]
        rfl
       refine pure_ (i := 29) (N := some 110) (v := ?_) (a' := ?_) (bq 31 1073741823) rfl rfl (any_of HT_.out (by kernel_rfl)) (fun _ _ _ h => h) (Or.inl ⟨by rfl, ?_⟩) ?_ ?_
       rotate_left
       ·intro w'
        go_simp
        with_reducible rfl
       rotate_left
       ·simp only [Act.put, List.setIfInBounds_toArray, List.set_cons_zero, List.set_cons_succ, i64_w, i32_w]
        rfl
       refine pure_ (i := 30) (N := some 10) (v := ?_) (a' := ?_) (bq 31 2147483647) rfl rfl (any_of HT_.out (by kernel_rfl)) (fun _ _ _ h => h) (Or.inl ⟨by rfl, ?_⟩) ?_ ?_
       rotate_left
       ·intro w'
        go_simp
        with_reducible rfl
       rotate_left
       ·simp only [Act.put, List.setIfInBounds_toArray, List.set_cons_zero, List.set_cons_succ, i64_w, i32_w]
        rfl
       refine done_ (done_of HT_.out (by kernel_rfl)) ?_
       try go_wp2
       go_ret
       exact ⟨zi9, zi1⟩

end Go.Proofs.Ytemaokhlolimhaa.Q

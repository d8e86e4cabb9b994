/- Written by a program of this session: functions of the translation as plain Lean functions, each with a proof that the call does what the plain function says; the conditions stand in each theorem. -/
import Derived.Test.YtemaokhlolimhaaQ0
import Derived.Test.YtemaokhlolimhaaQ1
import Derived.Test.YtemaokhlolimhaaQ2
import Derived.Test.YtemaokhlolimhaaQ3
namespace Go.Proofs.Ytemaokhlolimhaa.Q
open Go.RowKit Go.Proofs.YtemaokhlolimhaaW.PrintWords Go.Proofs.YtemaokhlolimhaaW.PrintLast Go.Proofs.YtemaokhlolimhaaW.PrintMore
attribute [local go_sem] max2_int min2_int max_two min_two max_three min_three max_four min_four   -- for this text's walks alone
set_option linter.unusedVariables false
set_option linter.unusedSimpArgs false

theorem ze1 {p : Prop} (h : p := by repeat (first | (with_reducible first | exact HB.out | apply below_alloc | apply pw_below_drewN | apply below_drew1 | refine below_set ?_ GE218.out | refine below_set ?_ GE219.out) | exact HB.out)) : p := h
theorem ze2 {p : Prop} (h : p := by repeat (first | (with_reducible first | exact HB.out | apply below_alloc | apply pw_below_drewN | apply below_drew1) | exact HB.out)) : p := h
theorem ze3 {p : Prop} (h : p := by first | exact HO_0.out | ((with_reducible repeat (first | apply Kd.R_alloc | apply Kd.R_drewN | apply Kd.R_drew)); exact HO_0.out)) : p := h
theorem ze4 {p : Prop} (h : p := by first | exact BK218.out | ((with_reducible repeat (first | refine blk_drewN ?_ _ | refine blk_drew ?_ | refine blk_alloc ?_ _)); exact BK218.out)) : p := h
theorem ze5 {p : Prop} (h : p := by first | exact BK219.out | ((with_reducible repeat (first | refine blk_drewN ?_ _ | refine blk_drew ?_ | refine blk_alloc ?_ _)); exact BK219.out)) : p := h
theorem ze6 {p : Prop} (h : p := by repeat (first | (with_reducible first | exact HK.out | apply Kept.alloc | apply Kept.drewN | apply Kept.drew) | exact HK.out)) : p := h
theorem ze7 {p : Prop} (h : p := by first | exact HK.out.1 | exact (show Kept w _ (fun k_ => P0_ k_) from by repeat (first | (with_reducible first | exact HK.out | apply Kept.alloc | apply Kept.drewN | apply Kept.drew) | exact HK.out)).1) : p := h
theorem ze8 {p : Prop} (h : p := by first | (with_reducible assumption) | assumption) : p := h
theorem ze9 {p : Prop} (h : p := by (try simp only [List.map_toArray, List.map_cons, List.map_nil]); first | done | rfl | (simp only [List.length_drop, List.length_take]; rfl)) : p := h
theorem ze10 {p : Prop} (h : p := by repeat (first | exact (Kd.C_below HR0_2.out HB.out) | (with_reducible refine Kd.C_alloc ?_ _) | (with_reducible refine Kd.C_drewN ?_ _) | (with_reducible refine Kd.C_drew ?_))) : p := h
theorem ze11 {p : Prop} (h : p := by repeat (first | exact (Kd.C_below HR2.out HB.out) | (with_reducible refine Kd.C_alloc ?_ _) | (with_reducible refine Kd.C_drewN ?_ _) | (with_reducible refine Kd.C_drew ?_))) : p := h
theorem ze12 {p : Prop} (h : p := by first | exact HO_27.out | ((with_reducible repeat (first | apply Kd.R_alloc | apply Kd.R_drewN | apply Kd.R_drew)); exact HO_27.out)) : p := h
theorem ze13 {p : Prop} (h : p := by first | rfl | (simp; done) | (simp [*]; done)) : p := h
theorem ze14 {p : Prop} (h : p := by first | rfl | (simp [errW_none, errW_some] <;> rfl) | (simp [*, errW_none, errW_some] <;> rfl)) : p := h
theorem ze15 {p : Prop} (h : p := by repeat (first | (with_reducible first | exact HB.out | apply below_alloc | apply pw_below_drewN | apply below_drew1 | refine below_set ?_ GE218.out) | exact HB.out)) : p := h
theorem ze16 {p : Prop} (h : p := by repeat (first | exact (Kd.R_reads' HO_8.out).2.2 | (with_reducible refine Kd.C_alloc ?_ _) | (with_reducible refine Kd.C_drewN ?_ _) | (with_reducible refine Kd.C_drew ?_))) : p := h
theorem ze17 {p : Prop} (h : p := by first | exact HO_8.out | ((with_reducible repeat (first | apply Kd.R_alloc | apply Kd.R_drewN | apply Kd.R_drew)); exact HO_8.out)) : p := h
theorem ze18 {p : Prop} (h : p := by (with_reducible repeat (first | apply Kd.R_alloc | apply Kd.R_drewN | apply Kd.R_drew)); exact Kd.R_mono HO_0.out (fun _ _ => trivial)) : p := h
theorem ze19 {p : Prop} (h : p := by first | exact HO231.out | ((with_reducible repeat (first | apply Kd.R_alloc | apply Kd.R_drewN | apply Kd.R_drew)); exact HO231.out)) : p := h
theorem ze20 {p : Prop} (h : p := by repeat (first | exact (Kd.R_reads' HO231.out).2.2 | (with_reducible refine Kd.C_alloc ?_ _) | (with_reducible refine Kd.C_drewN ?_ _) | (with_reducible refine Kd.C_drew ?_))) : p := h
theorem ze21 {p : Prop} (h : p := by (with_reducible repeat (first | apply Kd.R_alloc | apply Kd.R_drewN | apply Kd.R_drew)); exact Kd.R_mono HO_27.out (fun _ hk => hk.2)) : p := h
theorem ze22 {p : Prop} (h : p := by repeat (first | exact (Kd.C_below HR0_2.out ze1) | (with_reducible refine Kd.C_alloc ?_ _) | (with_reducible refine Kd.C_drewN ?_ _) | (with_reducible refine Kd.C_drew ?_))) : p := h
/-! ### spec_l1Put: function 36 -/
def spec_l1Put.l0 : Nat → List Int → Int → Int → Option (List Int)
 | 0, _, _, _ => none
 | k + 1, x0, x1, x5 => if x5 < (x0.length : Int) then (if 0 ≤ x5 then (if (rd x0 x5) < x1 then (spec_l1Put.l0 k x0 x1 (wrap64 (x5 + 1))) else (if (rd x0 x5) = x1 then (some x0) else ((some (([] : List Int) : List Int)).bind fun y178 => (if x5 ≤ (x0.length : Int) then ((some (x0.take (x5 : Int).toNat : List Int)).bind fun y181 => (if y178.length + y181.length < 17592186044416 then ((some (y178 ++ y181 : List Int)).bind fun y185 => (if y185.length < 17592186044416 then ((some (y185 ++ [x1] : List Int)).bind fun y188 => ((some (x0.drop (x5 : Int).toNat : List Int)).bind fun y191 => (if y188.length + y191.length < 17592186044416 then (some (y188 ++ y191)) else (none)))) else (none))) else (none))) else (none))))) else (none)) else ((some (([] : List Int) : List Int)).bind fun y198 => (if 0 ≤ x5 then (if x5 ≤ (x0.length : Int) then ((some (x0.take (x5 : Int).toNat : List Int)).bind fun y201 => (if y198.length + y201.length < 17592186044416 then ((some (y198 ++ y201 : List Int)).bind fun y205 => (if y205.length < 17592186044416 then ((some (y205 ++ [x1] : List Int)).bind fun y208 => ((some (x0.drop (x5 : Int).toNat : List Int)).bind fun y211 => (if y208.length + y211.length < 17592186044416 then (some (y208 ++ y211)) else (none)))) else (none))) else (none))) else (none)) else (none)))
def spec_l1Put.f (k : Nat) (l0 : List Int) (a1 : Int) : Option (List Int) := spec_l1Put.l0 k l0 a1 0
set_option maxHeartbeats 8000000 in
set_option maxRecDepth 100000 in
theorem spec_l1Put.calls (k : Nat) (P0_ : Nat → Prop) (u9000_ : Value) (l0 : List Int) (a1 : Int) (r : List Int) (w0 w : World) (hB : Below w0.heap.size w0 w) (ho0 : Kd.R (Kd.int .i64) 3 w w0.heap.size P0_ u9000_ l0) (h : spec_l1Put.f k l0 a1 = some r) :
  Calls Try.prog 36 #[u9000_, .int .i64 a1] w fun e w' => ∃ v0_ : Value, e = .returned (v0_) ∧ Kd.R (Kd.int .i64) 3 w' w0.heap.size (fun k_ => (P0_ k_ ∨ w.heap.size ≤ k_)) v0_ r ∧ Kd.R (Kd.int .i64) 3 w' w0.heap.size (fun _ => True) u9000_ l0 ∧ Below w0.heap.size w0 w' ∧ Kept w w' (fun k_ => P0_ k_) := by
 have HO0 := Aside0.mk (show Kd.R (Kd.int .i64) 3 w w0.heap.size (fun k_ => (P0_ k_ ∨ w.heap.size ≤ k_)) u9000_ l0 from Kd.R_mono ho0 (fun k_ hk => (.inl hk)))
 have HK := Aside0.mk (Kept.refl w (fun k_ => P0_ k_))
 have HW0 := Aside0.mk hB.size
 have HB := Aside0.mk hB
 clear hB
 have H : (spec_l1Put.l0 k l0 a1 0) = some r := h
 clear h
 have H' := Aside0.mk H
 clear H
 go_enter Try.func36, Try.ntmps36
 go_wp2
 go_loopg [5] k (fun kq v5 w' => ∃ (x5_1 : Int), v5 = .int .i64 x5_1 ∧ Aside0 (spec_l1Put.l0 kq l0 a1 x5_1 = some r) ∧ Aside0 (kq ≤ k) ∧ Aside0 (Kd.R (Kd.int .i64) 3 w' w0.heap.size (fun k_ => (P0_ k_ ∨ w.heap.size ≤ k_)) u9000_ l0) ∧ Aside0 (Kept w w' (fun k_ => P0_ k_)) ∧ Aside0 (Below w0.heap.size w0 w'))
 case atStart => exact ⟨(0), ze13, H', ⟨Nat.le_refl _⟩, ⟨by first | exact HO0.out | ((with_reducible repeat (first | apply Kd.R_alloc | apply Kd.R_drewN | apply Kd.R_drew)); exact HO0.out)⟩, ⟨ze6⟩, ⟨ze2⟩⟩
 case round =>
  clear H'
  try clear p2
  obtain ⟨x5_1, rfl, HA, HK1, HO_0, HK, HB⟩ := hrel
  cases gk with
  | zero => exact absurd HA.out (by simp [spec_l1Put.l0])
  | succ k1 =>
   have H := HA.out
   clear HA
   simp only [spec_l1Put.l0] at H
   by_cases c3 : x5_1 < (l0.length : Int)
   rotate_left
   ·rw [if_neg c3] at H
    have c3b0 : decide (x5_1 < (l0.length : Int)) = false := decide_eq_false c3
    clear c3
    obtain ⟨y198, hy198⟩ : ∃ y_ : List Int, y_ = (([] : List Int)) := ⟨_, rfl⟩
    replace H : (if 0 ≤ x5_1 then (if x5_1 ≤ (l0.length : Int) then ((some (l0.take (x5_1 : Int).toNat : List Int)).bind fun y201 => (if y198.length + y201.length < 17592186044416 then ((some (y198 ++ y201 : List Int)).bind fun y205 => (if y205.length < 17592186044416 then ((some (y205 ++ [a1] : List Int)).bind fun y208 => ((some (l0.drop (x5_1 : Int).toNat : List Int)).bind fun y211 => (if y208.length + y211.length < 17592186044416 then (some (y208 ++ y211)) else (none)))) else (none))) else (none))) else (none)) else (none)) = some r := by first | (rw [hy198]; with_reducible exact H) | (have H2_ := (Option.bind_some _ _).symm.trans H; rw [hy198]; with_reducible exact H2_) | (have H2_ := (Option.bind_some _ _).symm.trans H; with_reducible exact H2_) | with_reducible exact H | (rw [hy198]; exact H) | exact H
    have Ny198 := Aside0.mk hy198
    clear hy198
    by_cases c24 : 0 ≤ x5_1
    rotate_left
    ·rw [if_neg c24] at H
     exact absurd H (by simp)
    rw [if_pos c24] at H
    have c24b0 := eq_true c24
    have c24b1 : decide (0 ≤ x5_1) = true := decide_eq_true c24
    clear c24
    by_cases c25 : x5_1 ≤ (l0.length : Int)
    rotate_left
    ·rw [if_neg c25] at H
     exact absurd H (by simp)
    rw [if_pos c25] at H
    have c25b0 := eq_true c25
    have c25b1 : decide (x5_1 ≤ (l0.length : Int)) = true := decide_eq_true c25
    clear c25
    obtain ⟨y201, hy201⟩ : ∃ y_ : List Int, y_ = (l0.take (x5_1 : Int).toNat) := ⟨_, rfl⟩
    replace H : (if y198.length + y201.length < 17592186044416 then ((some (y198 ++ y201 : List Int)).bind fun y205 => (if y205.length < 17592186044416 then ((some (y205 ++ [a1] : List Int)).bind fun y208 => ((some (l0.drop (x5_1 : Int).toNat : List Int)).bind fun y211 => (if y208.length + y211.length < 17592186044416 then (some (y208 ++ y211)) else (none)))) else (none))) else (none)) = some r := by first | (rw [hy201]; with_reducible exact H) | (have H2_ := (Option.bind_some _ _).symm.trans H; rw [hy201]; with_reducible exact H2_) | (have H2_ := (Option.bind_some _ _).symm.trans H; with_reducible exact H2_) | with_reducible exact H | (rw [hy201]; exact H) | exact H
    have Ny201 := Aside0.mk hy201
    clear hy201
    by_cases c26 : y198.length + y201.length < 17592186044416
    rotate_left
    ·rw [if_neg c26] at H
     exact absurd H (by simp)
    rw [if_pos c26] at H
    have LMc26 := Aside0.mk c26
    clear c26
    obtain ⟨y205, hy205⟩ : ∃ y_ : List Int, y_ = (y198 ++ y201) := ⟨_, rfl⟩
    replace H : (if y205.length < 17592186044416 then ((some (y205 ++ [a1] : List Int)).bind fun y208 => ((some (l0.drop (x5_1 : Int).toNat : List Int)).bind fun y211 => (if y208.length + y211.length < 17592186044416 then (some (y208 ++ y211)) else (none)))) else (none)) = some r := by first | (rw [hy205]; with_reducible exact H) | (have H2_ := (Option.bind_some _ _).symm.trans H; rw [hy205]; with_reducible exact H2_) | (have H2_ := (Option.bind_some _ _).symm.trans H; with_reducible exact H2_) | with_reducible exact H | (rw [hy205]; exact H) | exact H
    have Ny205 := Aside0.mk hy205
    clear hy205
    by_cases c27 : y205.length < 17592186044416
    rotate_left
    ·rw [if_neg c27] at H
     exact absurd H (by simp)
    rw [if_pos c27] at H
    have LMc27 := Aside0.mk c27
    clear c27
    obtain ⟨y208, hy208⟩ : ∃ y_ : List Int, y_ = (y205 ++ [a1]) := ⟨_, rfl⟩
    replace H : ((some (l0.drop (x5_1 : Int).toNat : List Int)).bind fun y211 => (if y208.length + y211.length < 17592186044416 then (some (y208 ++ y211)) else (none))) = some r := by first | (rw [hy208]; with_reducible exact H) | (have H2_ := (Option.bind_some _ _).symm.trans H; rw [hy208]; with_reducible exact H2_) | (have H2_ := (Option.bind_some _ _).symm.trans H; with_reducible exact H2_) | with_reducible exact H | (rw [hy208]; exact H) | exact H
    have Ny208 := Aside0.mk hy208
    clear hy208
    have c28b0 := eq_true (of_decide_eq_true ze8 : 0 ≤ x5_1)
    have c29b0 := eq_true (of_decide_eq_true ze8 : x5_1 ≤ (l0.length : Int))
    obtain ⟨y211, hy211⟩ : ∃ y_ : List Int, y_ = (l0.drop (x5_1 : Int).toNat) := ⟨_, rfl⟩
    replace H : (if y208.length + y211.length < 17592186044416 then (some (y208 ++ y211)) else (none)) = some r := by first | (rw [hy211]; with_reducible exact H) | (have H2_ := (Option.bind_some _ _).symm.trans H; rw [hy211]; with_reducible exact H2_) | (have H2_ := (Option.bind_some _ _).symm.trans H; with_reducible exact H2_) | with_reducible exact H | (rw [hy211]; exact H) | exact H
    have Ny211 := Aside0.mk hy211
    clear hy211
    by_cases c30 : y208.length + y211.length < 17592186044416
    rotate_left
    ·rw [if_neg c30] at H
     exact absurd H (by simp)
    rw [if_pos c30] at H
    have LMc30 := Aside0.mk c30
    clear c30
    obtain ⟨y215, hy215⟩ : ∃ y_ : List Int, y_ = (y208 ++ y211) := ⟨_, rfl⟩
    replace H : (some y215) = some r := by first | (rw [hy215]; with_reducible exact H) | (have H2_ := (Option.bind_some _ _).symm.trans H; rw [hy215]; with_reducible exact H2_) | (have H2_ := (Option.bind_some _ _).symm.trans H; with_reducible exact H2_) | with_reducible exact H | (rw [hy215]; exact H) | exact H
    have Ny215 := Aside0.mk hy215
    clear hy215
    obtain rfl := Option.some.inj H
    obtain ⟨Ao31, co31, eo31⟩ := Kd.R_slice HO_0.out
    subst eo31
    go_wp2_with (first | ((with_reducible refine gate_dst (N := 34) rfl ?_); refine Kd.R_lit (Kd.int .i64) _ 3 ?hg (N := 34) ?hd (xs := ([] : List Int)) (inner := []) (ok := fun _ => True) (okp := fun _ => True) ?hr ?hp (fun _ hk => hk) trivial (Below.refl _ _) (Nat.le_refl _) (by simp) ?_; (case hd => rfl); (case hg => rfl); (case hr => first | (go_simp; done) | (go_simp; rfl)); (case hp => exact (Reps.none _ _)); intro v199 w32 ho33 hb hg_ hnew_; clear hg_ hnew_; (first | rw [← Ny198.out] at ho33 | (simp only [Int.reduceToNat] at ho33; rw [← Ny198.out] at ho33)); have n0_ := Aside0.mk (Kd.R_elder' ze3 (Kd.R_base ho33) hb); have n1_ := Aside0.mk (Kd.R_lower (Kd.R_new' (Kd.R_newM (M := fun k_ => (P0_ k_ ∨ w.heap.size ≤ k_)) ho33 ze7 (fun k_ h_ => .inr h_)) (Kd.R_lt ze3)) (below_size ze2)); have n2_ := Aside0.mk (Kept.below (S := (fun k_ => P0_ k_)) ze6 hb); have n3_ := Aside0.mk (below_step ze2 hb); clear HO_0; clear HK; clear HB; have HO_0 := n0_; have HO200 := n1_; have HK := n2_; have HB := n3_; clear n0_ n1_ n2_ n3_; clear hb ho33; have q34 : (x5_1 : Int) ≤ ((l0.length : Int) : Int) := of_decide_eq_true ze8; obtain ⟨i034, hi034, _, hsz34, _⟩ := info_parts info3; have hroom34 : l0.length ≤ co31 := (Kd.R_reads' HO_0.out).2.1; have hC34 : Kd.C (Kd.int .i64) _ Ao31 l0.length l0 := (Kd.R_reads' HO_0.out).2.2; have hcut34 := cut_to (P := Try.prog) 22 3 .i64 Try.underlying22 hi034 Ao31 l0.length co31 x5_1 (of_decide_eq_true ze8) q34 hroom34; have hr34 := Kd.C_take (m := (x5_1 : Int).toNat) hC34 (by omega); have hy34 : y201.length = (x5_1 : Int).toNat := (by rw [Ny201.out, List.length_take]; omega); rw [← Ny201.out] at hr34; rw [← hy34] at hcut34; have HR204 := Aside0.mk hr34; have HC204 := Aside0.mk (show y201.length ≤ co31 from by omega); clear hr34 hC34 hroom34 hi034 hsz34; have KY34 := Aside0.mk hy34; clear hy34; have KL34 := Aside0.mk (show (x5_1 : Int).toNat ≤ l0.length from by omega); replace q34 := eq_true q34) | ((with_reducible refine gate_builtin (b := .append) (xs := #[.tmp 34, .tmp 37]) rfl ?_); at_builtin; refine Kd.R_append_rows (Kd.int .i64) (w0 := w0) w0.heap.size rfl (.tmp 34) (.tmp 37) 22 3 (.int .i64 0) 8 rfl Try.underlying22 info3 rfl (by decide) (by omega) v199 y198 y201 _ _ _ (fun k_ => (P0_ k_ ∨ w.heap.size ≤ k_) ∧ some k_ ≠ (.slice Ao31 l0.length co31 : Value).ownBlock) (fun _ => False) rfl rfl ?aO ?aR (fun _ _ h => h) (fun _ h => h.elim) ?aF ?aB ?aS ?aL ?_; (case aR => repeat (first | exact (by first | exact HR204.out | (repeat (first | (with_reducible exact HR204.out) | (with_reducible refine Kd.C_alloc ?_ _) | (with_reducible refine Kd.C_drewN ?_ _) | (with_reducible refine Kd.C_drew ?_) | exact HR204.out))) | (with_reducible refine Kd.C_alloc ?_ _) | (with_reducible refine Kd.C_drewN ?_ _) | (with_reducible refine Kd.C_drew ?_))); (case aB => exact ze2); (case aF => exact (fun k_ hk => ⟨(.inr (Nat.le_trans ze7 hk)), Kd.fresh' (Kd.R_lt ze3) k_ hk⟩)); (case aO => exact (by (with_reducible repeat (first | apply Kd.R_alloc | apply Kd.R_drewN | apply Kd.R_drew)); exact Kd.R_mono HO200.out (fun _ hk => ⟨hk.1.1, hk.2⟩))); (case aS => exact (below_size ze2)); (case aL => have := LMc26.out; omega); intro v206 w35 ho hb hg hat; rw [← Ny205.out] at ho; have n0_ := Aside0.mk (Kd.R_after (ok := (fun k_ => (P0_ k_ ∨ w.heap.size ≤ k_))) ze3 hg hat); have n1_ := Aside0.mk (hb); have n2_ := Aside0.mk (Kept.of_grown (S := (fun k_ => P0_ k_)) hg ze6 (fun k_ e_ => (HO200.out.1 k_ e_).1.1)); have n3_ := Aside0.mk ((show Kd.C (Kd.int .i64) w35 Ao31 y201.length y201 from by rw [Ny201.out]; exact Kd.C_take (m := (x5_1 : Int).toNat) ((Kd.R_reads' (Kd.R_after (ok := (fun k_ => (P0_ k_ ∨ w.heap.size ≤ k_))) ze3 hg hat)).2.2) KL34.out)); have n4_ := Aside0.mk (ho); clear HO_0; clear HB; clear HK; clear HR204; clear HO200; have HO_0 := n0_; have HB := n1_; have HK := n2_; have HR204 := n3_; have HO207 := n4_; clear n0_ n1_ n2_ n3_ n4_; clear ho hb hg hat) | ((with_reducible refine gate_builtin (b := .append) (xs := #[.tmp 39, .tmp 41]) rfl ?_); at_builtin; refine Kd.R_append (Kd.int .i64) (w0 := w0) w0.heap.size rfl (.tmp 39) (.tmp 41) 22 3 (.int .i64 0) 8 rfl Try.underlying22 info3 rfl (by decide) (by omega) v206 y205 a1 [.int .i64 a1] (fun k_ => (P0_ k_ ∨ w.heap.size ≤ k_) ∧ some k_ ≠ (.slice Ao31 l0.length co31 : Value).ownBlock) (fun _ => False) rfl rfl ?aP (fun _ hk => hk.elim) ?aF ?aO ?aB ?aS ?aL ?_; (case aP => exact rfl); (case aB => exact ze2); (case aF => exact (fun k_ hk => ⟨(.inr (Nat.le_trans ze7 hk)), Kd.fresh' (Kd.R_lt ze3) k_ hk⟩)); (case aO => exact (by first | exact HO207.out | ((with_reducible repeat (first | apply Kd.R_alloc | apply Kd.R_drewN | apply Kd.R_drew)); exact HO207.out))); (case aS => exact (below_size ze2)); (case aL => have := LMc27.out; omega); intro v209 w36 ho hb hg hat; rw [← Ny208.out] at ho; have n0_ := Aside0.mk (Kd.R_after (ok := (fun k_ => (P0_ k_ ∨ w.heap.size ≤ k_))) ze3 hg hat); have n1_ := Aside0.mk (hb); have n2_ := Aside0.mk (Kept.of_grown (S := (fun k_ => P0_ k_)) hg ze6 (fun k_ e_ => (HO207.out.1 k_ e_).1)); have n3_ := Aside0.mk ((show Kd.C (Kd.int .i64) w36 Ao31 y201.length y201 from by rw [Ny201.out]; exact Kd.C_take (m := (x5_1 : Int).toNat) ((Kd.R_reads' (Kd.R_after (ok := (fun k_ => (P0_ k_ ∨ w.heap.size ≤ k_))) ze3 hg hat)).2.2) KL34.out)); have n4_ := Aside0.mk (ho); clear HO_0; clear HB; clear HK; clear HR204; clear HO207; have HO_0 := n0_; have HB := n1_; have HK := n2_; have HR204 := n3_; have HO210 := n4_; clear n0_ n1_ n2_ n3_ n4_; clear ho hb hg hat; have q37 : (x5_1 : Int) ≤ ((l0.length : Int) : Int) := of_decide_eq_true ze8; obtain ⟨i037, hi037, _, hsz37, _⟩ := info_parts info3; have hroom37 : l0.length ≤ co31 := (Kd.R_reads' HO_0.out).2.1; have hC37 : Kd.C (Kd.int .i64) _ Ao31 l0.length l0 := (Kd.R_reads' HO_0.out).2.2; have q037 : (0 : Int) ≤ (x5_1 : Int) := of_decide_eq_true ze8; have hcut37 := cut_from (P := Try.prog) 22 3 .i64 Try.underlying22 hi037 1 hsz37 Ao31 l0.length co31 x5_1 q037 q37; have hr37 := Kd.C_drop (m := (x5_1 : Int).toNat) (c := co31) hC37 (by omega) hroom37; obtain ⟨A37, hA37⟩ : ∃ A1, A1 = (if co31 = (x5_1 : Int).toNat then Ao31 else (Ao31 : Option Addr).map (·.add ((x5_1 : Int).toNat * 1))) := ⟨_, rfl⟩; obtain ⟨c37, hc37⟩ : ∃ c1, c1 = co31 - (x5_1 : Int).toNat := ⟨_, rfl⟩; have hy37 : y211.length = l0.length - (x5_1 : Int).toNat := (by rw [Ny211.out, List.length_drop] <;> omega); rw [show (l0).drop (x5_1 : Int).toNat = y211 from Ny211.out.symm] at hr37; replace hr37 : Kd.C (Kd.int .i64) _ A37 y211.length y211 := (by rw [hA37]; exact hr37); rw [← hy37, ← hA37, ← hc37] at hcut37; have HR214 := Aside0.mk hr37; have HC214 := Aside0.mk (show y211.length ≤ c37 from by rw [hy37, hc37]; exact Nat.sub_le_sub_right hroom37 _); clear hr37 hC37 hroom37 hi037 hsz37 hc37; have KY37 := Aside0.mk hy37; have KA37 := Aside0.mk hA37; clear hy37 hA37; have KL37 := Aside0.mk (show (x5_1 : Int).toNat ≤ l0.length from by omega); replace q37 := eq_true q37) | ((with_reducible refine gate_builtin (b := .append) (xs := #[.tmp 43, .tmp 46]) rfl ?_); at_builtin; refine Kd.R_append_rows (Kd.int .i64) (w0 := w0) w0.heap.size rfl (.tmp 43) (.tmp 46) 22 3 (.int .i64 0) 8 rfl Try.underlying22 info3 rfl (by decide) (by omega) v209 y208 y211 _ _ _ (fun k_ => (P0_ k_ ∨ w.heap.size ≤ k_) ∧ some k_ ≠ (.slice Ao31 l0.length co31 : Value).ownBlock) (fun _ => False) rfl rfl ?aO ?aR (fun _ _ h => h) (fun _ h => h.elim) ?aF ?aB ?aS ?aL ?_; (case aR => repeat (first | exact (by first | exact HR214.out | (repeat (first | (with_reducible exact HR214.out) | (with_reducible refine Kd.C_alloc ?_ _) | (with_reducible refine Kd.C_drewN ?_ _) | (with_reducible refine Kd.C_drew ?_) | exact HR214.out))) | (with_reducible refine Kd.C_alloc ?_ _) | (with_reducible refine Kd.C_drewN ?_ _) | (with_reducible refine Kd.C_drew ?_))); (case aB => exact ze2); (case aF => exact (fun k_ hk => ⟨(.inr (Nat.le_trans ze7 hk)), Kd.fresh' (Kd.R_lt ze3) k_ hk⟩)); (case aO => exact (by first | exact HO210.out | ((with_reducible repeat (first | apply Kd.R_alloc | apply Kd.R_drewN | apply Kd.R_drew)); exact HO210.out))); (case aS => exact (below_size ze2)); (case aL => have := LMc30.out; omega); intro v216 w38 ho hb hg hat; rw [← Ny215.out] at ho; have n0_ := Aside0.mk (Kd.R_after (ok := (fun k_ => (P0_ k_ ∨ w.heap.size ≤ k_))) ze3 hg hat); have n1_ := Aside0.mk (hb); have n2_ := Aside0.mk (Kept.of_grown (S := (fun k_ => P0_ k_)) hg ze6 (fun k_ e_ => (HO210.out.1 k_ e_).1)); have n3_ := Aside0.mk ((show Kd.C (Kd.int .i64) w38 Ao31 y201.length y201 from by rw [Ny201.out]; exact Kd.C_take (m := (x5_1 : Int).toNat) ((Kd.R_reads' (Kd.R_after (ok := (fun k_ => (P0_ k_ ∨ w.heap.size ≤ k_))) ze3 hg hat)).2.2) KL34.out)); have n4_ := Aside0.mk ((show Kd.C (Kd.int .i64) w38 A37 y211.length y211 from by rw [Ny211.out, KA37.out]; exact Kd.C_drop (m := (x5_1 : Int).toNat) (c := co31) ((Kd.R_reads' (Kd.R_after (ok := (fun k_ => (P0_ k_ ∨ w.heap.size ≤ k_))) ze3 hg hat)).2.2) KL37.out ((Kd.R_reads' (Kd.R_after (ok := (fun k_ => (P0_ k_ ∨ w.heap.size ≤ k_))) ze3 hg hat)).2.1))); have n5_ := Aside0.mk (ho); clear HO_0; clear HB; clear HK; clear HR204; clear HR214; clear HO210; have HO_0 := n0_; have HB := n1_; have HK := n2_; have HR204 := n3_; have HR214 := n4_; have HO217 := n5_; clear n0_ n1_ n2_ n3_ n4_ n5_; clear ho hb hg hat))
    go_ret
    exact ⟨_, ze14, by (with_reducible repeat (first | apply Kd.R_alloc | apply Kd.R_drewN | apply Kd.R_drew)); exact Kd.R_mono HO217.out (fun _ hk => hk.1), ze18, ze2, ze6⟩
   rw [if_pos c3] at H
   have c3b0 : decide (x5_1 < (l0.length : Int)) = true := decide_eq_true c3
   clear c3
   by_cases c4 : 0 ≤ x5_1
   rotate_left
   ·rw [if_neg c4] at H
    exact absurd H (by simp)
   rw [if_pos c4] at H
   have c4b0 : decide (0 ≤ x5_1) = true := decide_eq_true c4
   clear c4
   by_cases c5 : (rd l0 x5_1) < a1
   ·rw [if_pos c5] at H
    have c5b0 : decide ((rd l0 x5_1) < a1) = true := decide_eq_true c5
    clear c5
    have H' := Aside0.mk H
    clear H
    obtain ⟨Ao6, co6, eo6⟩ := Kd.R_slice HO_0.out
    subst eo6
    have p176 : 0 ≤ (x5_1 : Int) := of_decide_eq_true ze8
    have q176 : x5_1 < (l0.length : Int) := of_decide_eq_true ze8
    obtain ⟨ad176, e176, hx176_0⟩ := Kd.at_int (Kd.R_reads' HO_0.out).2.2 x5_1 p176 q176
    cases e176
    replace p176 := eq_true p176
    replace q176 := eq_true q176
    go_wp2
    go_roundg k1
    case measure => have := HK1.out; omega
    case rel => exact ⟨(wrap64 (x5_1 + 1)), ze13, H', ⟨by have := HK1.out; omega⟩, ⟨ze3⟩, ⟨ze6⟩, ⟨ze2⟩⟩
   rw [if_neg c5] at H
   have c5b0 : decide ((rd l0 x5_1) < a1) = false := decide_eq_false c5
   clear c5
   by_cases c7 : (rd l0 x5_1) = a1
   ·rw [if_pos c7] at H
    have c7b0 : ((rd l0 x5_1) == a1) = true := beq_iff_eq.mpr c7
    have c7b1 : ((rd l0 x5_1) != a1) = false := bne_eq_false_iff_eq.mpr c7
    clear c7
    obtain rfl := Option.some.inj H
    obtain ⟨Ao8, co8, eo8⟩ := Kd.R_slice HO_0.out
    subst eo8
    have p176 : 0 ≤ (x5_1 : Int) := of_decide_eq_true ze8
    have q176 : x5_1 < (l0.length : Int) := of_decide_eq_true ze8
    obtain ⟨ad176, e176, hx176_0⟩ := Kd.at_int (Kd.R_reads' HO_0.out).2.2 x5_1 p176 q176
    cases e176
    replace p176 := eq_true p176
    replace q176 := eq_true q176
    have p177 : 0 ≤ (x5_1 : Int) := of_decide_eq_true ze8
    have q177 : x5_1 < (l0.length : Int) := of_decide_eq_true ze8
    obtain ⟨ad177, e177, hx177_0⟩ := Kd.at_int (Kd.R_reads' HO_0.out).2.2 x5_1 p177 q177
    obtain rfl : ad176 = ad177 := (by injection e177)
    replace p177 := eq_true p177
    replace q177 := eq_true q177
    go_wp2
    go_ret
    exact ⟨_, ze14, ze3, ze18, ze2, ze6⟩
   rw [if_neg c7] at H
   have c7b0 : ((rd l0 x5_1) == a1) = false := beq_eq_false_iff_ne.mpr c7
   have c7b1 : ((rd l0 x5_1) != a1) = true := bne_iff_ne.mpr c7
   obtain ⟨y178, hy178⟩ : ∃ y_ : List Int, y_ = (([] : List Int)) := ⟨_, rfl⟩
   replace H : (if x5_1 ≤ (l0.length : Int) then ((some (l0.take (x5_1 : Int).toNat : List Int)).bind fun y181 => (if y178.length + y181.length < 17592186044416 then ((some (y178 ++ y181 : List Int)).bind fun y185 => (if y185.length < 17592186044416 then ((some (y185 ++ [a1] : List Int)).bind fun y188 => ((some (l0.drop (x5_1 : Int).toNat : List Int)).bind fun y191 => (if y188.length + y191.length < 17592186044416 then (some (y188 ++ y191)) else (none)))) else (none))) else (none))) else (none)) = some r := by first | (rw [hy178]; with_reducible exact H) | (have H2_ := (Option.bind_some _ _).symm.trans H; rw [hy178]; with_reducible exact H2_) | (have H2_ := (Option.bind_some _ _).symm.trans H; with_reducible exact H2_) | with_reducible exact H | (rw [hy178]; exact H) | exact H
   have Ny178 := Aside0.mk hy178
   clear hy178
   have c9b0 := eq_true (of_decide_eq_true ze8 : 0 ≤ x5_1)
   by_cases c10 : x5_1 ≤ (l0.length : Int)
   rotate_left
   ·rw [if_neg c10] at H
    exact absurd H (by simp)
   rw [if_pos c10] at H
   have c10b0 := eq_true c10
   have c10b1 : decide (x5_1 ≤ (l0.length : Int)) = true := decide_eq_true c10
   clear c10
   obtain ⟨y181, hy181⟩ : ∃ y_ : List Int, y_ = (l0.take (x5_1 : Int).toNat) := ⟨_, rfl⟩
   replace H : (if y178.length + y181.length < 17592186044416 then ((some (y178 ++ y181 : List Int)).bind fun y185 => (if y185.length < 17592186044416 then ((some (y185 ++ [a1] : List Int)).bind fun y188 => ((some (l0.drop (x5_1 : Int).toNat : List Int)).bind fun y191 => (if y188.length + y191.length < 17592186044416 then (some (y188 ++ y191)) else (none)))) else (none))) else (none)) = some r := by first | (rw [hy181]; with_reducible exact H) | (have H2_ := (Option.bind_some _ _).symm.trans H; rw [hy181]; with_reducible exact H2_) | (have H2_ := (Option.bind_some _ _).symm.trans H; with_reducible exact H2_) | with_reducible exact H | (rw [hy181]; exact H) | exact H
   have Ny181 := Aside0.mk hy181
   clear hy181
   by_cases c11 : y178.length + y181.length < 17592186044416
   rotate_left
   ·rw [if_neg c11] at H
    exact absurd H (by simp)
   rw [if_pos c11] at H
   have LMc11 := Aside0.mk c11
   clear c11
   obtain ⟨y185, hy185⟩ : ∃ y_ : List Int, y_ = (y178 ++ y181) := ⟨_, rfl⟩
   replace H : (if y185.length < 17592186044416 then ((some (y185 ++ [a1] : List Int)).bind fun y188 => ((some (l0.drop (x5_1 : Int).toNat : List Int)).bind fun y191 => (if y188.length + y191.length < 17592186044416 then (some (y188 ++ y191)) else (none)))) else (none)) = some r := by first | (rw [hy185]; with_reducible exact H) | (have H2_ := (Option.bind_some _ _).symm.trans H; rw [hy185]; with_reducible exact H2_) | (have H2_ := (Option.bind_some _ _).symm.trans H; with_reducible exact H2_) | with_reducible exact H | (rw [hy185]; exact H) | exact H
   have Ny185 := Aside0.mk hy185
   clear hy185
   by_cases c12 : y185.length < 17592186044416
   rotate_left
   ·rw [if_neg c12] at H
    exact absurd H (by simp)
   rw [if_pos c12] at H
   have LMc12 := Aside0.mk c12
   clear c12
   obtain ⟨y188, hy188⟩ : ∃ y_ : List Int, y_ = (y185 ++ [a1]) := ⟨_, rfl⟩
   replace H : ((some (l0.drop (x5_1 : Int).toNat : List Int)).bind fun y191 => (if y188.length + y191.length < 17592186044416 then (some (y188 ++ y191)) else (none))) = some r := by first | (rw [hy188]; with_reducible exact H) | (have H2_ := (Option.bind_some _ _).symm.trans H; rw [hy188]; with_reducible exact H2_) | (have H2_ := (Option.bind_some _ _).symm.trans H; with_reducible exact H2_) | with_reducible exact H | (rw [hy188]; exact H) | exact H
   have Ny188 := Aside0.mk hy188
   clear hy188
   have c13b0 := eq_true (of_decide_eq_true ze8 : 0 ≤ x5_1)
   have c14b0 := eq_true (of_decide_eq_true ze8 : x5_1 ≤ (l0.length : Int))
   obtain ⟨y191, hy191⟩ : ∃ y_ : List Int, y_ = (l0.drop (x5_1 : Int).toNat) := ⟨_, rfl⟩
   replace H : (if y188.length + y191.length < 17592186044416 then (some (y188 ++ y191)) else (none)) = some r := by first | (rw [hy191]; with_reducible exact H) | (have H2_ := (Option.bind_some _ _).symm.trans H; rw [hy191]; with_reducible exact H2_) | (have H2_ := (Option.bind_some _ _).symm.trans H; with_reducible exact H2_) | with_reducible exact H | (rw [hy191]; exact H) | exact H
   have Ny191 := Aside0.mk hy191
   clear hy191
   by_cases c15 : y188.length + y191.length < 17592186044416
   rotate_left
   ·rw [if_neg c15] at H
    exact absurd H (by simp)
   rw [if_pos c15] at H
   have LMc15 := Aside0.mk c15
   clear c15
   obtain ⟨y195, hy195⟩ : ∃ y_ : List Int, y_ = (y188 ++ y191) := ⟨_, rfl⟩
   replace H : (some y195) = some r := by first | (rw [hy195]; with_reducible exact H) | (have H2_ := (Option.bind_some _ _).symm.trans H; rw [hy195]; with_reducible exact H2_) | (have H2_ := (Option.bind_some _ _).symm.trans H; with_reducible exact H2_) | with_reducible exact H | (rw [hy195]; exact H) | exact H
   have Ny195 := Aside0.mk hy195
   clear hy195
   obtain rfl := Option.some.inj H
   obtain ⟨Ao16, co16, eo16⟩ := Kd.R_slice HO_0.out
   subst eo16
   have p176 : 0 ≤ (x5_1 : Int) := of_decide_eq_true ze8
   have q176 : x5_1 < (l0.length : Int) := of_decide_eq_true ze8
   obtain ⟨ad176, e176, hx176_0⟩ := Kd.at_int (Kd.R_reads' HO_0.out).2.2 x5_1 p176 q176
   cases e176
   replace p176 := eq_true p176
   replace q176 := eq_true q176
   have p177 : 0 ≤ (x5_1 : Int) := of_decide_eq_true ze8
   have q177 : x5_1 < (l0.length : Int) := of_decide_eq_true ze8
   obtain ⟨ad177, e177, hx177_0⟩ := Kd.at_int (Kd.R_reads' HO_0.out).2.2 x5_1 p177 q177
   obtain rfl : ad176 = ad177 := (by injection e177)
   replace p177 := eq_true p177
   replace q177 := eq_true q177
   go_wp2_with (first | ((with_reducible refine gate_dst (N := 34) rfl ?_); refine Kd.R_lit (Kd.int .i64) _ 3 ?hg (N := 34) ?hd (xs := ([] : List Int)) (inner := []) (ok := fun _ => True) (okp := fun _ => True) ?hr ?hp (fun _ hk => hk) trivial (Below.refl _ _) (Nat.le_refl _) (by simp) ?_; (case hd => rfl); (case hg => rfl); (case hr => first | (go_simp; done) | (go_simp; rfl)); (case hp => exact (Reps.none _ _)); intro v179 w17 ho18 hb hg_ hnew_; clear hg_ hnew_; (first | rw [← Ny178.out] at ho18 | (simp only [Int.reduceToNat] at ho18; rw [← Ny178.out] at ho18)); have n0_ := Aside0.mk (Kd.R_elder' ze3 (Kd.R_base ho18) hb); have n1_ := Aside0.mk (Kd.R_lower (Kd.R_new' (Kd.R_newM (M := fun k_ => (P0_ k_ ∨ w.heap.size ≤ k_)) ho18 ze7 (fun k_ h_ => .inr h_)) (Kd.R_lt ze3)) (below_size ze2)); have n2_ := Aside0.mk (Kept.below (S := (fun k_ => P0_ k_)) ze6 hb); have n3_ := Aside0.mk (below_step ze2 hb); clear HO_0; clear HK; clear HB; have HO_0 := n0_; have HO180 := n1_; have HK := n2_; have HB := n3_; clear n0_ n1_ n2_ n3_; clear hb ho18; have q19 : (x5_1 : Int) ≤ ((l0.length : Int) : Int) := of_decide_eq_true ze8; obtain ⟨i019, hi019, _, hsz19, _⟩ := info_parts info3; have hroom19 : l0.length ≤ co16 := (Kd.R_reads' HO_0.out).2.1; have hC19 : Kd.C (Kd.int .i64) _ (some ad176) l0.length l0 := (Kd.R_reads' HO_0.out).2.2; have hcut19 := cut_to (P := Try.prog) 22 3 .i64 Try.underlying22 hi019 (some ad176) l0.length co16 x5_1 (of_decide_eq_true ze8) q19 hroom19; have hr19 := Kd.C_take (m := (x5_1 : Int).toNat) hC19 (by omega); have hy19 : y181.length = (x5_1 : Int).toNat := (by rw [Ny181.out, List.length_take]; omega); rw [← Ny181.out] at hr19; rw [← hy19] at hcut19; have HR184 := Aside0.mk hr19; have HC184 := Aside0.mk (show y181.length ≤ co16 from by omega); clear hr19 hC19 hroom19 hi019 hsz19; have KY19 := Aside0.mk hy19; clear hy19; have KL19 := Aside0.mk (show (x5_1 : Int).toNat ≤ l0.length from by omega); replace q19 := eq_true q19) | ((with_reducible refine gate_builtin (b := .append) (xs := #[.tmp 34, .tmp 37]) rfl ?_); at_builtin; refine Kd.R_append_rows (Kd.int .i64) (w0 := w0) w0.heap.size rfl (.tmp 34) (.tmp 37) 22 3 (.int .i64 0) 8 rfl Try.underlying22 info3 rfl (by decide) (by omega) v179 y178 y181 _ _ _ (fun k_ => (P0_ k_ ∨ w.heap.size ≤ k_) ∧ some k_ ≠ (.slice (some ad176) l0.length co16 : Value).ownBlock) (fun _ => False) rfl rfl ?aO ?aR (fun _ _ h => h) (fun _ h => h.elim) ?aF ?aB ?aS ?aL ?_; (case aR => repeat (first | exact (by first | exact HR184.out | (repeat (first | (with_reducible exact HR184.out) | (with_reducible refine Kd.C_alloc ?_ _) | (with_reducible refine Kd.C_drewN ?_ _) | (with_reducible refine Kd.C_drew ?_) | exact HR184.out))) | (with_reducible refine Kd.C_alloc ?_ _) | (with_reducible refine Kd.C_drewN ?_ _) | (with_reducible refine Kd.C_drew ?_))); (case aB => exact ze2); (case aF => exact (fun k_ hk => ⟨(.inr (Nat.le_trans ze7 hk)), Kd.fresh' (Kd.R_lt ze3) k_ hk⟩)); (case aO => exact (by (with_reducible repeat (first | apply Kd.R_alloc | apply Kd.R_drewN | apply Kd.R_drew)); exact Kd.R_mono HO180.out (fun _ hk => ⟨hk.1.1, hk.2⟩))); (case aS => exact (below_size ze2)); (case aL => have := LMc11.out; omega); intro v186 w20 ho hb hg hat; rw [← Ny185.out] at ho; have n0_ := Aside0.mk (Kd.R_after (ok := (fun k_ => (P0_ k_ ∨ w.heap.size ≤ k_))) ze3 hg hat); have n1_ := Aside0.mk (hb); have n2_ := Aside0.mk (Kept.of_grown (S := (fun k_ => P0_ k_)) hg ze6 (fun k_ e_ => (HO180.out.1 k_ e_).1.1)); have n3_ := Aside0.mk ((show Kd.C (Kd.int .i64) w20 (some ad176) y181.length y181 from by rw [Ny181.out]; exact Kd.C_take (m := (x5_1 : Int).toNat) ((Kd.R_reads' (Kd.R_after (ok := (fun k_ => (P0_ k_ ∨ w.heap.size ≤ k_))) ze3 hg hat)).2.2) KL19.out)); have n4_ := Aside0.mk (ho); clear HO_0; clear HB; clear HK; clear HR184; clear HO180; have HO_0 := n0_; have HB := n1_; have HK := n2_; have HR184 := n3_; have HO187 := n4_; clear n0_ n1_ n2_ n3_ n4_; clear ho hb hg hat) | ((with_reducible refine gate_builtin (b := .append) (xs := #[.tmp 39, .tmp 41]) rfl ?_); at_builtin; refine Kd.R_append (Kd.int .i64) (w0 := w0) w0.heap.size rfl (.tmp 39) (.tmp 41) 22 3 (.int .i64 0) 8 rfl Try.underlying22 info3 rfl (by decide) (by omega) v186 y185 a1 [.int .i64 a1] (fun k_ => (P0_ k_ ∨ w.heap.size ≤ k_) ∧ some k_ ≠ (.slice (some ad176) l0.length co16 : Value).ownBlock) (fun _ => False) rfl rfl ?aP (fun _ hk => hk.elim) ?aF ?aO ?aB ?aS ?aL ?_; (case aP => exact rfl); (case aB => exact ze2); (case aF => exact (fun k_ hk => ⟨(.inr (Nat.le_trans ze7 hk)), Kd.fresh' (Kd.R_lt ze3) k_ hk⟩)); (case aO => exact (by first | exact HO187.out | ((with_reducible repeat (first | apply Kd.R_alloc | apply Kd.R_drewN | apply Kd.R_drew)); exact HO187.out))); (case aS => exact (below_size ze2)); (case aL => have := LMc12.out; omega); intro v189 w21 ho hb hg hat; rw [← Ny188.out] at ho; have n0_ := Aside0.mk (Kd.R_after (ok := (fun k_ => (P0_ k_ ∨ w.heap.size ≤ k_))) ze3 hg hat); have n1_ := Aside0.mk (hb); have n2_ := Aside0.mk (Kept.of_grown (S := (fun k_ => P0_ k_)) hg ze6 (fun k_ e_ => (HO187.out.1 k_ e_).1)); have n3_ := Aside0.mk ((show Kd.C (Kd.int .i64) w21 (some ad176) y181.length y181 from by rw [Ny181.out]; exact Kd.C_take (m := (x5_1 : Int).toNat) ((Kd.R_reads' (Kd.R_after (ok := (fun k_ => (P0_ k_ ∨ w.heap.size ≤ k_))) ze3 hg hat)).2.2) KL19.out)); have n4_ := Aside0.mk (ho); clear HO_0; clear HB; clear HK; clear HR184; clear HO187; have HO_0 := n0_; have HB := n1_; have HK := n2_; have HR184 := n3_; have HO190 := n4_; clear n0_ n1_ n2_ n3_ n4_; clear ho hb hg hat; have q22 : (x5_1 : Int) ≤ ((l0.length : Int) : Int) := of_decide_eq_true ze8; obtain ⟨i022, hi022, _, hsz22, _⟩ := info_parts info3; have hroom22 : l0.length ≤ co16 := (Kd.R_reads' HO_0.out).2.1; have hC22 : Kd.C (Kd.int .i64) _ (some ad176) l0.length l0 := (Kd.R_reads' HO_0.out).2.2; have q022 : (0 : Int) ≤ (x5_1 : Int) := of_decide_eq_true ze8; have hcut22 := cut_from (P := Try.prog) 22 3 .i64 Try.underlying22 hi022 1 hsz22 (some ad176) l0.length co16 x5_1 q022 q22; have hr22 := Kd.C_drop (m := (x5_1 : Int).toNat) (c := co16) hC22 (by omega) hroom22; obtain ⟨A22, hA22⟩ : ∃ A1, A1 = (if co16 = (x5_1 : Int).toNat then (some ad176) else ((some ad176) : Option Addr).map (·.add ((x5_1 : Int).toNat * 1))) := ⟨_, rfl⟩; obtain ⟨c22, hc22⟩ : ∃ c1, c1 = co16 - (x5_1 : Int).toNat := ⟨_, rfl⟩; have hy22 : y191.length = l0.length - (x5_1 : Int).toNat := (by rw [Ny191.out, List.length_drop] <;> omega); rw [show (l0).drop (x5_1 : Int).toNat = y191 from Ny191.out.symm] at hr22; replace hr22 : Kd.C (Kd.int .i64) _ A22 y191.length y191 := (by rw [hA22]; exact hr22); rw [← hy22, ← hA22, ← hc22] at hcut22; have HR194 := Aside0.mk hr22; have HC194 := Aside0.mk (show y191.length ≤ c22 from by rw [hy22, hc22]; exact Nat.sub_le_sub_right hroom22 _); clear hr22 hC22 hroom22 hi022 hsz22 hc22; have KY22 := Aside0.mk hy22; have KA22 := Aside0.mk hA22; clear hy22 hA22; have KL22 := Aside0.mk (show (x5_1 : Int).toNat ≤ l0.length from by omega); replace q22 := eq_true q22) | ((with_reducible refine gate_builtin (b := .append) (xs := #[.tmp 43, .tmp 46]) rfl ?_); at_builtin; refine Kd.R_append_rows (Kd.int .i64) (w0 := w0) w0.heap.size rfl (.tmp 43) (.tmp 46) 22 3 (.int .i64 0) 8 rfl Try.underlying22 info3 rfl (by decide) (by omega) v189 y188 y191 _ _ _ (fun k_ => (P0_ k_ ∨ w.heap.size ≤ k_) ∧ some k_ ≠ (.slice (some ad176) l0.length co16 : Value).ownBlock) (fun _ => False) rfl rfl ?aO ?aR (fun _ _ h => h) (fun _ h => h.elim) ?aF ?aB ?aS ?aL ?_; (case aR => repeat (first | exact (by first | exact HR194.out | (repeat (first | (with_reducible exact HR194.out) | (with_reducible refine Kd.C_alloc ?_ _) | (with_reducible refine Kd.C_drewN ?_ _) | (with_reducible refine Kd.C_drew ?_) | exact HR194.out))) | (with_reducible refine Kd.C_alloc ?_ _) | (with_reducible refine Kd.C_drewN ?_ _) | (with_reducible refine Kd.C_drew ?_))); (case aB => exact ze2); (case aF => exact (fun k_ hk => ⟨(.inr (Nat.le_trans ze7 hk)), Kd.fresh' (Kd.R_lt ze3) k_ hk⟩)); (case aO => exact (by first | exact HO190.out | ((with_reducible repeat (first | apply Kd.R_alloc | apply Kd.R_drewN | apply Kd.R_drew)); exact HO190.out))); (case aS => exact (below_size ze2)); (case aL => have := LMc15.out; omega); intro v196 w23 ho hb hg hat; rw [← Ny195.out] at ho; have n0_ := Aside0.mk (Kd.R_after (ok := (fun k_ => (P0_ k_ ∨ w.heap.size ≤ k_))) ze3 hg hat); have n1_ := Aside0.mk (hb); have n2_ := Aside0.mk (Kept.of_grown (S := (fun k_ => P0_ k_)) hg ze6 (fun k_ e_ => (HO190.out.1 k_ e_).1)); have n3_ := Aside0.mk ((show Kd.C (Kd.int .i64) w23 (some ad176) y181.length y181 from by rw [Ny181.out]; exact Kd.C_take (m := (x5_1 : Int).toNat) ((Kd.R_reads' (Kd.R_after (ok := (fun k_ => (P0_ k_ ∨ w.heap.size ≤ k_))) ze3 hg hat)).2.2) KL19.out)); have n4_ := Aside0.mk ((show Kd.C (Kd.int .i64) w23 A22 y191.length y191 from by rw [Ny191.out, KA22.out]; exact Kd.C_drop (m := (x5_1 : Int).toNat) (c := co16) ((Kd.R_reads' (Kd.R_after (ok := (fun k_ => (P0_ k_ ∨ w.heap.size ≤ k_))) ze3 hg hat)).2.2) KL22.out ((Kd.R_reads' (Kd.R_after (ok := (fun k_ => (P0_ k_ ∨ w.heap.size ≤ k_))) ze3 hg hat)).2.1))); have n5_ := Aside0.mk (ho); clear HO_0; clear HB; clear HK; clear HR184; clear HR194; clear HO190; have HO_0 := n0_; have HB := n1_; have HK := n2_; have HR184 := n3_; have HR194 := n4_; have HO197 := n5_; clear n0_ n1_ n2_ n3_ n4_ n5_; clear ho hb hg hat))
   go_ret
   exact ⟨_, ze14, by (with_reducible repeat (first | apply Kd.R_alloc | apply Kd.R_drewN | apply Kd.R_drew)); exact Kd.R_mono HO197.out (fun _ hk => hk.1), ze18, ze2, ze6⟩

/-! ### spec_FillPeaceful: function 17 -/
mutual
def spec_FillPeaceful.j0 : Nat → List Int → Bool → Int → Int → List Int → Int → Int → Option (List Int × Bool)
 | 0, _, _, _, _, _, _, _ => none
 | k + 1, x2, x23, x219000, x219001, x219002, x220000, x220001 => if x23 = true then (some (([] : List Int), false)) else ((spec_l1Own.f x2).bind fun t222 => ((spec_boCells.f k x219000 x219001 x219002).bind fun t225 => (spec_FillPeaceful.l0 k t222 t225 (t225.length : Int) 0 x219000 x219001 x219002 x220000 x220001)))
def spec_FillPeaceful.l0 : Nat → List Int → List Int → Int → Int → Int → Int → List Int → Int → Int → Option (List Int × Bool)
 | 0, _, _, _, _, _, _, _, _, _ => none
 | k + 1, x8, x27, x28, x29, x219000, x219001, x219002, x220000, x220001 => if x29 < x28 then (if 0 ≤ x29 then (if x29 < (x27.length : Int) then ((spec_l1Put.f k x8 (rd x27 x29)).bind fun t229 => ((spec_l1Has.f k x8 (rd x27 x29)).bind fun t232 => (if t232 = true then (spec_FillPeaceful.l0 k x8 x27 x28 (wrap64 (x29 + 1)) x219000 x219001 x219002 x220000 x220001) else ((spec_guPeace.f k x219000 x219001 x219002 x220000 x220001 t229).bind fun t233 => (if t233 = true then (spec_FillPeaceful.l0 k t229 x27 x28 (wrap64 (x29 + 1)) x219000 x219001 x219002 x220000 x220001) else (spec_FillPeaceful.l0 k x8 x27 x28 (wrap64 (x29 + 1)) x219000 x219001 x219002 x220000 x220001)))))) else (none)) else (none)) else (some (x8, true))
end
def spec_FillPeaceful.f (k : Nat) (a0_0 : Int) (a0_1 : Int) (l0_2 : List Int) (a1_0 : Int) (a1_1 : Int) (l2 : List Int) : Option (List Int × Bool) := (spec_guAsked.f k a0_0 a0_1 l0_2 a1_0 a1_1 l2).bind fun t220 => (if t220 = true then ((spec_guPeace.f k a0_0 a0_1 l0_2 a1_0 a1_1 l2).bind fun t221 => (spec_FillPeaceful.j0 k l2 (!t221) a0_0 a0_1 l0_2 a1_0 a1_1)) else (spec_FillPeaceful.j0 k l2 true a0_0 a0_1 l0_2 a1_0 a1_1))
set_option maxHeartbeats 8000000 in
set_option maxRecDepth 100000 in
theorem spec_FillPeaceful.calls (k : Nat) (a0_0 : Int) (a0_1 : Int) (A0_2 : Option Addr) (c0_2 : Nat) (l0_2 : List Int) (a1_0 : Int) (a1_1 : Int) (A2 : Option Addr) (c2 : Nat) (l2 : List Int) (r1 : List Int) (r2 : Bool) (w : World) (hr0_2 : Kd.C (Kd.int .i64) w A0_2 l0_2.length l0_2) (hc0_2 : l0_2.length ≤ c0_2) (hr2 : Kd.C (Kd.int .i64) w A2 l2.length l2) (hc2 : l2.length ≤ c2) (h : spec_FillPeaceful.f k a0_0 a0_1 l0_2 a1_0 a1_1 l2 = some (r1, r2)) :
  Calls Try.prog 17 #[.agg #[.int .i64 a0_0, .int .i64 a0_1, .slice A0_2 l0_2.length c0_2], .agg #[.int .i64 a1_0, .int .i64 a1_1], .slice A2 l2.length c2] w fun e w' => ∃ v0_ : Value, e = .returned (.tuple #[v0_, .bool r2]) ∧ Kd.R (Kd.int .i64) 3 w' w.heap.size (fun _ => True) v0_ r1 ∧ Below w.heap.size w w' := by
 have hu31 := Try.underlying31
 have hu33 := Try.underlying33
 have HR0_2 := Aside0.mk hr0_2
 have HC0_2 := Aside0.mk hc0_2
 clear hr0_2 hc0_2
 have HR2 := Aside0.mk hr2
 have HC2 := Aside0.mk hc2
 clear hr2 hc2
 have HB := Aside0.mk (Below.refl w.heap.size w)
 have H : ((spec_guAsked.f k a0_0 a0_1 l0_2 a1_0 a1_1 l2).bind fun t220 => (if t220 = true then ((spec_guPeace.f k a0_0 a0_1 l0_2 a1_0 a1_1 l2).bind fun t221 => (spec_FillPeaceful.j0 k l2 (!t221) a0_0 a0_1 l0_2 a1_0 a1_1)) else (spec_FillPeaceful.j0 k l2 true a0_0 a0_1 l0_2 a1_0 a1_1))) = some (r1, r2) := h
 clear h
 have HC4 := Aside0.mk H
 clear H
 go_enter Try.func17, Try.ntmps17
 go_upto_region 1 with (first | ((with_reducible refine gate_dst (N := 3) rfl ?_); refine box_event ?hg (N := 3) ?hd (cs := #[.int .i64 a0_0, .int .i64 a0_1, .slice A0_2 l0_2.length c0_2]) (t := 31) ?hr ?_; (case hd => rfl); (case hg => rfl); (case hr => first | (go_simp; done) | (go_simp; rfl)); intro gb218 hg w5 hbox hb; have n0_ := Aside0.mk (below_step ze2 hb); have n1_ := Aside0.mk (hbox); have n2_ := Aside0.mk ((by rw [hg]; exact (below_size ze2) : w.heap.size ≤ gb218)); have n3_ := Aside0.mk ((by rw [hg]; exact (below_size ze2) : w.heap.size ≤ gb218)); clear HB; have HB := n0_; have BK218 := n1_; have GW218 := n2_; have GE218 := n3_; clear n0_ n1_ n2_ n3_; clear hb hbox hg) | ((with_reducible refine gate_dst (N := 4) rfl ?_); refine box_event ?hg (N := 4) ?hd (cs := #[.int .i64 a1_0, .int .i64 a1_1]) (t := 33) ?hr ?_; (case hd => rfl); (case hg => rfl); (case hr => first | (go_simp; done) | (go_simp; rfl)); intro gb219 hg w6 hbox hb; have n0_ := Aside0.mk (blk_below (g := gb218) (o := .cells #[.int .i64 a0_0, .int .i64 a0_1, .slice A0_2 l0_2.length c0_2] 31 (0, 0)) ze4 hb); have n1_ := Aside0.mk (below_step ze15 hb); have n2_ := Aside0.mk (hbox); have n3_ := Aside0.mk ((by rw [hg]; exact (below_size ze15) : w.heap.size ≤ gb219)); have n4_ := Aside0.mk ((by rw [hg]; exact (below_size ze15) : w.heap.size ≤ gb219)); have n5_ := Aside0.mk ((by rw [hg]; exact Nat.ne_of_lt (blk_lt (g := gb218) (o := .cells #[.int .i64 a0_0, .int .i64 a0_1, .slice A0_2 l0_2.length c0_2] 31 (0, 0)) ze4) : gb218 ≠ gb219)); have n6_ := Aside0.mk ((by rw [hg]; exact Nat.ne_of_gt (blk_lt (g := gb218) (o := .cells #[.int .i64 a0_0, .int .i64 a0_1, .slice A0_2 l0_2.length c0_2] 31 (0, 0)) ze4) : gb219 ≠ gb218)); clear BK218; clear HB; have BK218 := n0_; have HB := n1_; have BK219 := n2_; have GW219 := n3_; have GE219 := n4_; have NB218_219 := n5_; have NB219_218 := n6_; clear n0_ n1_ n2_ n3_ n4_ n5_ n6_; clear hb hbox hg))
 (try simp only [Act.put, List.setIfInBounds_toArray, List.set_cons_zero, List.set_cons_succ])
 go_cut [23] (fun v23 wc => ∃ (kq : Nat) (x23_3 : Bool), v23 = .bool x23_3 ∧ Aside0 (spec_FillPeaceful.j0 kq l2 x23_3 a0_0 a0_1 l0_2 a1_0 a1_1 = some (r1, r2)) ∧ Aside0 (kq ≤ k) ∧ Aside0 (wc.heap[gb218]? = some (.cells #[.int .i64 a0_0, .int .i64 a0_1, (.slice A0_2 l0_2.length c0_2)] 31 (0, 0))) ∧ Aside0 (wc.heap[gb219]? = some (.cells #[.int .i64 a1_0, .int .i64 a1_1] 33 (0, 0))) ∧ Aside0 (Below w.heap.size w wc))
 case first =>
  have H := HC4.out
  clear HC4
  replace H := Option.bind_eq_some_iff.mp H
  obtain ⟨t220, A70, H⟩ := H
  replace H : (if t220 = true then ((spec_guPeace.f k a0_0 a0_1 l0_2 a1_0 a1_1 l2).bind fun t221 => (spec_FillPeaceful.j0 k l2 (!t221) a0_0 a0_1 l0_2 a1_0 a1_1)) else (spec_FillPeaceful.j0 k l2 true a0_0 a0_1 l0_2 a1_0 a1_1)) = some (r1, r2) := H
  have A7 := Aside0.mk A70
  clear A70
  by_cases c8 : t220 = true
  rotate_left
  ·replace c8 := Bool.eq_false_iff.mpr c8
   subst c8
   have H1 : (spec_FillPeaceful.j0 k l2 true a0_0 a0_1 l0_2 a1_0 a1_1) = some (r1, r2) := by rw [if_neg (show ¬ (false = true) by decide)] at H; exact H
   clear H
   have H := H1
   clear H1
   have H' := Aside0.mk H
   clear H
   have hnb17 := NB218_219.out
   have hnc17 := NB219_218.out
   have hcz18_0 : w6.cell? ⟨gb218, 0, none⟩ = some (.int .i64 a0_0) := (blk_cell BK218.out 0).trans rfl
   have hcz18_1 : w6.cell? ⟨gb218, 1, none⟩ = some (.int .i64 a0_1) := (blk_cell BK218.out 1).trans rfl
   have hcz18_2 : w6.cell? ⟨gb218, 2, none⟩ = some (.slice A0_2 l0_2.length c0_2) := (blk_cell BK218.out 2).trans rfl
   have hfz18_0 := blk_frozen BK218.out 0
   have hfz18_1 := blk_frozen BK218.out 1
   have hfz18_2 := blk_frozen BK218.out 2
   have hcz19_0 : w6.cell? ⟨gb219, 0, none⟩ = some (.int .i64 a1_0) := (blk_cell BK219.out 0).trans rfl
   have hcz19_1 : w6.cell? ⟨gb219, 1, none⟩ = some (.int .i64 a1_1) := (blk_cell BK219.out 1).trans rfl
   have hfz19_0 := blk_frozen BK219.out 0
   have hfz19_1 := blk_frozen BK219.out 1
   go_wp2_with (first | ((with_reducible refine gate_callee (f := 33) rfl ?_); refine goesL_ (some 15) rfl rfl Try.func33 (by kernel_rfl) rfl #[.agg #[.int .i64 a0_0, .int .i64 a0_1, .slice A0_2 l0_2.length c0_2], .agg #[.int .i64 a1_0, .int .i64 a1_1], .slice A2 l2.length c2] rfl ze9 ?_; (with_reducible refine (spec_guAsked.calls k a0_0 a0_1 _ _ l0_2 a1_0 a1_1 _ _ l2 false _ ?side1 ?side2 ?side3 ?side4 A7.out).mono ?_); (case side1 => exact ze10); (case side2 => exact HC0_2.out); (case side3 => exact ze11); (case side4 => exact HC2.out); rintro e w20 ⟨rfl, hb⟩; refine ⟨_, rfl, ?_⟩; have n0_ := Aside0.mk (blk_below (g := gb218) (o := .cells #[.int .i64 a0_0, .int .i64 a0_1, .slice A0_2 l0_2.length c0_2] 31 (0, 0)) ze4 hb); have n1_ := Aside0.mk (blk_below (g := gb219) (o := .cells #[.int .i64 a1_0, .int .i64 a1_1] 33 (0, 0)) ze5 hb); have n2_ := Aside0.mk (below_step ze1 hb); clear BK218; clear BK219; clear HB; have BK218 := n0_; have BK219 := n1_; have HB := n2_; clear n0_ n1_ n2_; (try clear hb); (try clear hb2); (try clear hk); (try clear hi); (try clear hna_); (try clear hnb_)))
   go_meet
   case rel => exact ⟨_, (true), ze13, H', ⟨by first | omega | exact Nat.le_refl _⟩, ⟨ze4⟩, ⟨ze5⟩, ⟨ze1⟩⟩
  subst c8
  have H1 : ((spec_guPeace.f k a0_0 a0_1 l0_2 a1_0 a1_1 l2).bind fun t221 => (spec_FillPeaceful.j0 k l2 (!t221) a0_0 a0_1 l0_2 a1_0 a1_1)) = some (r1, r2) := by rw [if_pos rfl] at H; exact H
  clear H
  have H := H1
  clear H1
  replace H := Option.bind_eq_some_iff.mp H
  obtain ⟨t221, A90, H⟩ := H
  replace H : (spec_FillPeaceful.j0 k l2 (!t221) a0_0 a0_1 l0_2 a1_0 a1_1) = some (r1, r2) := H
  have A9 := Aside0.mk A90
  clear A90
  have H' := Aside0.mk H
  clear H
  have hnb10 := NB218_219.out
  have hnc10 := NB219_218.out
  have hcz11_0 : w6.cell? ⟨gb218, 0, none⟩ = some (.int .i64 a0_0) := (blk_cell BK218.out 0).trans rfl
  have hcz11_1 : w6.cell? ⟨gb218, 1, none⟩ = some (.int .i64 a0_1) := (blk_cell BK218.out 1).trans rfl
  have hcz11_2 : w6.cell? ⟨gb218, 2, none⟩ = some (.slice A0_2 l0_2.length c0_2) := (blk_cell BK218.out 2).trans rfl
  have hfz11_0 := blk_frozen BK218.out 0
  have hfz11_1 := blk_frozen BK218.out 1
  have hfz11_2 := blk_frozen BK218.out 2
  have hcz12_0 : w6.cell? ⟨gb219, 0, none⟩ = some (.int .i64 a1_0) := (blk_cell BK219.out 0).trans rfl
  have hcz12_1 : w6.cell? ⟨gb219, 1, none⟩ = some (.int .i64 a1_1) := (blk_cell BK219.out 1).trans rfl
  have hfz12_0 := blk_frozen BK219.out 0
  have hfz12_1 := blk_frozen BK219.out 1
  go_wp2_with (first | ((with_reducible refine gate_callee (f := 33) rfl ?_); refine goesL_ (some 15) rfl rfl Try.func33 (by kernel_rfl) rfl #[.agg #[.int .i64 a0_0, .int .i64 a0_1, .slice A0_2 l0_2.length c0_2], .agg #[.int .i64 a1_0, .int .i64 a1_1], .slice A2 l2.length c2] rfl ze9 ?_; (with_reducible refine (spec_guAsked.calls k a0_0 a0_1 _ _ l0_2 a1_0 a1_1 _ _ l2 true _ ?side1 ?side2 ?side3 ?side4 A7.out).mono ?_); (case side1 => exact ze10); (case side2 => exact HC0_2.out); (case side3 => exact ze11); (case side4 => exact HC2.out); rintro e w13 ⟨rfl, hb⟩; refine ⟨_, rfl, ?_⟩; have n0_ := Aside0.mk (blk_below (g := gb218) (o := .cells #[.int .i64 a0_0, .int .i64 a0_1, .slice A0_2 l0_2.length c0_2] 31 (0, 0)) ze4 hb); have n1_ := Aside0.mk (blk_below (g := gb219) (o := .cells #[.int .i64 a1_0, .int .i64 a1_1] 33 (0, 0)) ze5 hb); have n2_ := Aside0.mk (below_step ze1 hb); clear BK218; clear BK219; clear HB; have BK218 := n0_; have BK219 := n1_; have HB := n2_; clear n0_ n1_ n2_; (try clear hb); (try clear hb2); (try clear hk); (try clear hi); (try clear hna_); (try clear hnb_); have hcz14_0 : w13.cell? ⟨gb218, 0, none⟩ = some (.int .i64 a0_0) := (blk_cell BK218.out 0).trans rfl; have hcz14_1 : w13.cell? ⟨gb218, 1, none⟩ = some (.int .i64 a0_1) := (blk_cell BK218.out 1).trans rfl; have hcz14_2 : w13.cell? ⟨gb218, 2, none⟩ = some (.slice A0_2 l0_2.length c0_2) := (blk_cell BK218.out 2).trans rfl; have hfz14_0 := blk_frozen BK218.out 0; have hfz14_1 := blk_frozen BK218.out 1; have hfz14_2 := blk_frozen BK218.out 2; have hcz15_0 : w13.cell? ⟨gb219, 0, none⟩ = some (.int .i64 a1_0) := (blk_cell BK219.out 0).trans rfl; have hcz15_1 : w13.cell? ⟨gb219, 1, none⟩ = some (.int .i64 a1_1) := (blk_cell BK219.out 1).trans rfl; have hfz15_0 := blk_frozen BK219.out 0; have hfz15_1 := blk_frozen BK219.out 1) | (go_at_call 34; (with_reducible refine (spec_guPeace.calls k a0_0 a0_1 _ _ l0_2 a1_0 a1_1 _ _ l2 t221 _ ?side1 ?side2 ?side3 ?side4 A9.out).mono ?_); (case side1 => exact ze10); (case side2 => exact HC0_2.out); (case side3 => exact ze11); (case side4 => exact HC2.out); rintro e w16 ⟨rfl, hb⟩; have n0_ := Aside0.mk (blk_below (g := gb218) (o := .cells #[.int .i64 a0_0, .int .i64 a0_1, .slice A0_2 l0_2.length c0_2] 31 (0, 0)) ze4 hb); have n1_ := Aside0.mk (blk_below (g := gb219) (o := .cells #[.int .i64 a1_0, .int .i64 a1_1] 33 (0, 0)) ze5 hb); have n2_ := Aside0.mk (below_step ze1 hb); clear BK218; clear BK219; clear HB; have BK218 := n0_; have BK219 := n1_; have HB := n2_; clear n0_ n1_ n2_; (try clear hb); (try clear hb2); (try clear hk); (try clear hi); (try clear hna_); (try clear hnb_)))
  go_meet
  case rel => exact ⟨_, (!t221), ze13, H', ⟨by first | omega | exact Nat.le_refl _⟩, ⟨ze4⟩, ⟨ze5⟩, ⟨ze1⟩⟩
 case rest =>
  clear HC4
  try clear c1; try clear c2; try clear p2; try clear c3; try clear c8; try clear c10; try clear c17; try clear hcz11_0; try clear hcz11_1; try clear hcz11_2; try clear hcz12_0; try clear hcz12_1; try clear hcz14_0; try clear hcz14_1; try clear hcz14_2; try clear hcz15_0; try clear hcz15_1; try clear hcz18_0; try clear hcz18_1; try clear hcz18_2; try clear hcz19_0; try clear hcz19_1; try clear hfz11_0; try clear hfz11_1; try clear hfz11_2; try clear hfz12_0; try clear hfz12_1; try clear hfz14_0; try clear hfz14_1; try clear hfz14_2; try clear hfz15_0; try clear hfz15_1; try clear hfz18_0; try clear hfz18_1
  try clear hfz18_2; try clear hfz19_0; try clear hfz19_1
  obtain ⟨kq, x23_3, rfl, HA, HJ3, BK218, BK219, HB⟩ := hcut
  cases kq with
  | zero => exact absurd HA.out (by simp [spec_FillPeaceful.j0])
  | succ kj3 =>
   have H := HA.out
   clear HA
   simp only [spec_FillPeaceful.j0] at H
   by_cases c21 : x23_3 = true
   ·subst c21
    have H1 : (some (([] : List Int), false)) = some (r1, r2) := by rw [if_pos rfl] at H; exact H
    clear H
    have H := H1
    clear H1
    simp only [Option.some.injEq, Prod.mk.injEq] at H
    obtain ⟨rfl, rfl⟩ := H
    go_wp2
    go_ret2
    exact ⟨_, ze14, by first | exact Kd.R_nil _ _ _ _ _ | exact Kd.N_nil _ _ _ _ _ | exact Kd.V_nil _ _ _ _ _ | exact Kd.Q_nil _ _ _ _ _ | exact Kd.S_nil _ _ _ _ _, ze1⟩
   replace c21 := Bool.eq_false_iff.mpr c21
   subst c21
   have H1 : ((spec_l1Own.f l2).bind fun t222 => ((spec_boCells.f kj3 a0_0 a0_1 l0_2).bind fun t225 => (spec_FillPeaceful.l0 kj3 t222 t225 (t225.length : Int) 0 a0_0 a0_1 l0_2 a1_0 a1_1))) = some (r1, r2) := by rw [if_neg (show ¬ (false = true) by decide)] at H; exact H
   clear H
   have H := H1
   clear H1
   replace H := Option.bind_eq_some_iff.mp H
   obtain ⟨t222, A220, H⟩ := H
   replace H : ((spec_boCells.f kj3 a0_0 a0_1 l0_2).bind fun t225 => (spec_FillPeaceful.l0 kj3 t222 t225 (t225.length : Int) 0 a0_0 a0_1 l0_2 a1_0 a1_1)) = some (r1, r2) := H
   have A22 := Aside0.mk A220
   clear A220
   replace H := Option.bind_eq_some_iff.mp H
   obtain ⟨t225, A230, H⟩ := H
   replace H : (spec_FillPeaceful.l0 kj3 t222 t225 (t225.length : Int) 0 a0_0 a0_1 l0_2 a1_0 a1_1) = some (r1, r2) := H
   have A23 := Aside0.mk A230
   clear A230
   have H' := Aside0.mk H
   clear H
   go_wp2_with (first | ((with_reducible refine gate_callee (f := 35) rfl ?_); refine goesL_ (some 25) rfl rfl Try.func35 (by kernel_rfl) rfl #[.slice A2 l2.length c2] rfl ze9 ?_; (with_reducible refine (spec_l1Own.calls _ _ l2 t222 _ ?side1 ?side2 A22.out).mono ?_); (case side1 => exact ze11); (case side2 => exact HC2.out); rintro e w24 ⟨v223, rfl, ho0, hb⟩; refine ⟨_, rfl, ?_⟩; have n0_ := Aside0.mk (Kd.R_lower ho0 (below_size ze1)); have n1_ := Aside0.mk (blk_below (g := gb218) (o := .cells #[.int .i64 a0_0, .int .i64 a0_1, .slice A0_2 l0_2.length c0_2] 31 (0, 0)) ze4 hb); have n2_ := Aside0.mk (blk_below (g := gb219) (o := .cells #[.int .i64 a1_0, .int .i64 a1_1] 33 (0, 0)) ze5 hb); have n3_ := Aside0.mk (below_step ze1 hb); clear BK218; clear BK219; clear HB; have HO224 := n0_; have BK218 := n1_; have BK219 := n2_; have HB := n3_; clear n0_ n1_ n2_ n3_; (try clear hb); (try clear hb2); (try clear hk); (try clear hi); (try clear ho0); (try clear hna_); (try clear hnb_); have hnb25 := NB218_219.out; have hnc25 := NB219_218.out; have hcz26_0 : w24.cell? ⟨gb218, 0, none⟩ = some (.int .i64 a0_0) := (blk_cell BK218.out 0).trans rfl; have hcz26_1 : w24.cell? ⟨gb218, 1, none⟩ = some (.int .i64 a0_1) := (blk_cell BK218.out 1).trans rfl; have hcz26_2 : w24.cell? ⟨gb218, 2, none⟩ = some (.slice A0_2 l0_2.length c0_2) := (blk_cell BK218.out 2).trans rfl; have hfz26_0 := blk_frozen BK218.out 0; have hfz26_1 := blk_frozen BK218.out 1; have hfz26_2 := blk_frozen BK218.out 2) | ((with_reducible refine gate_callee (f := 29) rfl ?_); refine goesL_ (some 27) rfl rfl Try.func29 (by kernel_rfl) rfl #[.agg #[.int .i64 a0_0, .int .i64 a0_1, .slice A0_2 l0_2.length c0_2]] rfl ze9 ?_; (with_reducible refine (spec_boCells.calls kj3 a0_0 a0_1 _ _ l0_2 t225 _ ?side1 ?side2 A23.out).mono ?_); (case side1 => exact ze10); (case side2 => exact HC0_2.out); rintro e w27 ⟨v226, rfl, ho0, hb⟩; refine ⟨_, rfl, ?_⟩; have n0_ := Aside0.mk (Kd.R_elder' (by first | exact HO224.out | ((with_reducible repeat (first | apply Kd.R_alloc | apply Kd.R_drewN | apply Kd.R_drew)); exact HO224.out)) (Kd.R_base ho0) hb); have n1_ := Aside0.mk (Kd.R_lower (Kd.R_new' ho0 (Kd.R_lt (by first | exact HO224.out | ((with_reducible repeat (first | apply Kd.R_alloc | apply Kd.R_drewN | apply Kd.R_drew)); exact HO224.out)))) (below_size ze1)); have n2_ := Aside0.mk (blk_below (g := gb218) (o := .cells #[.int .i64 a0_0, .int .i64 a0_1, .slice A0_2 l0_2.length c0_2] 31 (0, 0)) ze4 hb); have n3_ := Aside0.mk (blk_below (g := gb219) (o := .cells #[.int .i64 a1_0, .int .i64 a1_1] 33 (0, 0)) ze5 hb); have n4_ := Aside0.mk (below_step ze1 hb); clear HO224; clear BK218; clear BK219; clear HB; have HO224 := n0_; have HO227 := n1_; have BK218 := n2_; have BK219 := n3_; have HB := n4_; clear n0_ n1_ n2_ n3_ n4_; (try clear hb); (try clear hb2); (try clear hk); (try clear hi); (try clear ho0); (try clear hna_); (try clear hnb_); obtain ⟨Ao28, co28, eo28⟩ := Kd.R_slice HO227.out; subst eo28))
   go_loopg [8, 29] kj3 (fun kq v8 v29 w' => ∃ (x8_2 : List Int) (x29_2 : Int), v29 = .int .i64 x29_2 ∧ Aside0 (spec_FillPeaceful.l0 kq x8_2 t225 (t225.length : Int) x29_2 a0_0 a0_1 l0_2 a1_0 a1_1 = some (r1, r2)) ∧ Aside0 (kq ≤ kj3) ∧ Aside0 (Kd.R (Kd.int .i64) 3 w' w.heap.size (fun k_ => some k_ ≠ ((.slice Ao28 t225.length co28) : Value).ownBlock) v8 x8_2) ∧ Aside0 (Kd.R (Kd.int .i64) 3 w' w.heap.size (fun k_ => some k_ ≠ (v8 : Value).ownBlock) (.slice Ao28 t225.length co28) t225) ∧ Aside0 (w'.heap[gb218]? = some (.cells #[.int .i64 a0_0, .int .i64 a0_1, (.slice A0_2 l0_2.length c0_2)] 31 (0, 0))) ∧ Aside0 (w'.heap[gb219]? = some (.cells #[.int .i64 a1_0, .int .i64 a1_1] 33 (0, 0))) ∧ Aside0 (Below w.heap.size w w'))
   case atStart => exact ⟨(t222), (0), ze13, H', ⟨Nat.le_refl _⟩, ⟨by (with_reducible repeat (first | apply Kd.R_alloc | apply Kd.R_drewN | apply Kd.R_drew)); exact Kd.R_mono HO224.out (fun _ hk => hk.2)⟩, ⟨by (with_reducible repeat (first | apply Kd.R_alloc | apply Kd.R_drewN | apply Kd.R_drew)); exact Kd.R_mono HO227.out (fun _ hk => hk.2)⟩, ⟨ze4⟩, ⟨ze5⟩, ⟨ze1⟩⟩
   case round =>
    clear H'
    try clear c1; try clear c2; try clear p2; try clear c3; try clear c8; try clear c10; try clear c17; try clear c21; try clear c25; try clear hcz11_0; try clear hcz11_1; try clear hcz11_2; try clear hcz12_0; try clear hcz12_1; try clear hcz14_0; try clear hcz14_1; try clear hcz14_2; try clear hcz15_0; try clear hcz15_1; try clear hcz18_0; try clear hcz18_1; try clear hcz18_2; try clear hcz19_0; try clear hcz19_1; try clear hcz26_0; try clear hcz26_1; try clear hcz26_2; try clear hfz11_0; try clear hfz11_1; try clear hfz11_2; try clear hfz12_0; try clear hfz12_1; try clear hfz14_0; try clear hfz14_1
    try clear hfz14_2; try clear hfz15_0; try clear hfz15_1; try clear hfz18_0; try clear hfz18_1; try clear hfz18_2; try clear hfz19_0; try clear hfz19_1; try clear hfz26_0; try clear hfz26_1; try clear hfz26_2; try clear p2
    obtain ⟨x8_2, x29_2, rfl, HA, HK2, HO_8, HO_27, BK218, BK219, HB⟩ := hrel
    cases gk with
    | zero => exact absurd HA.out (by simp [spec_FillPeaceful.l0])
    | succ k2 =>
     have H := HA.out
     clear HA
     simp only [spec_FillPeaceful.l0] at H
     by_cases c29 : x29_2 < (t225.length : Int)
     rotate_left
     ·rw [if_neg c29] at H
      have c29b0 : decide (x29_2 < (t225.length : Int)) = false := decide_eq_false c29
      clear c29
      simp only [Option.some.injEq, Prod.mk.injEq] at H
      obtain ⟨rfl, rfl⟩ := H
      go_wp2
      go_ret2
      exact ⟨_, ze14, by (with_reducible repeat (first | apply Kd.R_alloc | apply Kd.R_drewN | apply Kd.R_drew)); exact Kd.R_mono HO_8.out (fun _ hk => trivial), ze1⟩
     rw [if_pos c29] at H
     have c29b0 : decide (x29_2 < (t225.length : Int)) = true := decide_eq_true c29
     clear c29
     by_cases c30 : 0 ≤ x29_2
     rotate_left
     ·rw [if_neg c30] at H
      exact absurd H (by simp)
     rw [if_pos c30] at H
     have c30b0 : decide (0 ≤ x29_2) = true := decide_eq_true c30
     clear c30
     by_cases c31 : x29_2 < (t225.length : Int)
     rotate_left
     ·rw [if_neg c31] at H
      exact absurd H (by simp)
     rw [if_pos c31] at H
     have c31b0 : decide (x29_2 < (t225.length : Int)) = true := decide_eq_true c31
     clear c31
     replace H := Option.bind_eq_some_iff.mp H
     obtain ⟨t229, A320, H⟩ := H
     replace H : ((spec_l1Has.f k2 x8_2 (rd t225 x29_2)).bind fun t232 => (if t232 = true then (spec_FillPeaceful.l0 k2 x8_2 t225 (t225.length : Int) (wrap64 (x29_2 + 1)) a0_0 a0_1 l0_2 a1_0 a1_1) else ((spec_guPeace.f k2 a0_0 a0_1 l0_2 a1_0 a1_1 t229).bind fun t233 => (if t233 = true then (spec_FillPeaceful.l0 k2 t229 t225 (t225.length : Int) (wrap64 (x29_2 + 1)) a0_0 a0_1 l0_2 a1_0 a1_1) else (spec_FillPeaceful.l0 k2 x8_2 t225 (t225.length : Int) (wrap64 (x29_2 + 1)) a0_0 a0_1 l0_2 a1_0 a1_1))))) = some (r1, r2) := H
     have A32 := Aside0.mk A320
     clear A320
     replace H := Option.bind_eq_some_iff.mp H
     obtain ⟨t232, A330, H⟩ := H
     replace H : (if t232 = true then (spec_FillPeaceful.l0 k2 x8_2 t225 (t225.length : Int) (wrap64 (x29_2 + 1)) a0_0 a0_1 l0_2 a1_0 a1_1) else ((spec_guPeace.f k2 a0_0 a0_1 l0_2 a1_0 a1_1 t229).bind fun t233 => (if t233 = true then (spec_FillPeaceful.l0 k2 t229 t225 (t225.length : Int) (wrap64 (x29_2 + 1)) a0_0 a0_1 l0_2 a1_0 a1_1) else (spec_FillPeaceful.l0 k2 x8_2 t225 (t225.length : Int) (wrap64 (x29_2 + 1)) a0_0 a0_1 l0_2 a1_0 a1_1)))) = some (r1, r2) := H
     have A33 := Aside0.mk A330
     clear A330
     by_cases c34 : t232 = true
     ·subst c34
      have H1 : (spec_FillPeaceful.l0 k2 x8_2 t225 (t225.length : Int) (wrap64 (x29_2 + 1)) a0_0 a0_1 l0_2 a1_0 a1_1) = some (r1, r2) := by rw [if_pos rfl] at H; exact H
      clear H
      have H := H1
      clear H1
      have H' := Aside0.mk H
      clear H
      have p228 : 0 ≤ (x29_2 : Int) := of_decide_eq_true ze8
      have q228 : x29_2 < (t225.length : Int) := of_decide_eq_true ze8
      obtain ⟨ad228, e228, hx228_0⟩ := Kd.at_int (Kd.R_reads' HO_27.out).2.2 x29_2 p228 q228
      cases e228
      replace p228 := eq_true p228
      replace q228 := eq_true q228
      obtain ⟨Ao35, co35, eo35⟩ := Kd.R_slice HO_8.out
      subst eo35
      go_wp2_with (first | ((with_reducible refine gate_callee (f := 36) rfl ?_); refine goesL_ (some 35) rfl rfl Try.func36 (by kernel_rfl) rfl #[.slice Ao35 x8_2.length co35, .int .i64 (rd t225 x29_2)] rfl ze9 ?_; (with_reducible refine (spec_l1Put.calls k2 (fun k_ => some k_ = (.slice Ao35 x8_2.length co35 : Value).ownBlock) (.slice Ao35 x8_2.length co35) x8_2 (rd t225 x29_2) t229 w _ ?side1 ?side2 A32.out).mono ?_); (case side1 => exact ze1); (case side2 => exact Kd.R_tight rfl HO_8.out); rintro e w36 ⟨v230, rfl, ho0, hrow_, hb, hkp⟩; refine ⟨_, rfl, ?_⟩; have n5_ := Aside0.mk (Kd.R_mono (ok' := fun k_ => some k_ ≠ (.slice (some ad228) t225.length co28 : Value).ownBlock) (Kd.R_tight rfl hrow_) (fun k_ hk_ => HO_8.out.1 k_ hk_.symm)); have n0_ := Aside0.mk (Kd.R_mono (ok' := fun k_ => some k_ ≠ (v230 : Value).ownBlock ∧ some k_ ≠ (.slice Ao35 x8_2.length co35 : Value).ownBlock) (Kd.R_keptB (HO_27.out) hkp (fun k_ hk_ hs_ => (hk_) hs_)) (fun k_ hk_ => ⟨fun e_ => Or.elim (ho0.1 k_ e_.symm) (fun hs_ => hk_.2.1 hs_) (fun hn_ => Nat.not_le.2 hk_.2.2 hn_), hk_.1⟩)); have n1_ := Aside0.mk (blk_kept ze4 hkp (fun hs_ => (fun e_ => (Kd.R_ne HO_8.out BK218.out (by decide)) e_) hs_)); have n2_ := Aside0.mk (blk_kept ze5 hkp (fun hs_ => (fun e_ => (Kd.R_ne HO_8.out BK219.out (by decide)) e_) hs_)); have n3_ := Aside0.mk (Kd.R_mono (ok' := fun k_ => some k_ ≠ (.slice (some ad228) t225.length co28 : Value).ownBlock) ho0 (fun k_ hk_ => Or.elim hk_ (fun hs_ => fun e_ => (((HO_27.out).1 k_ e_.symm)) hs_) (fun hn_ => (Kd.fresh' (Kd.R_lt ze12) k_ hn_)))); have n4_ := Aside0.mk (hb); clear HO_27; clear BK218; clear BK219; clear HB; clear HO_8; have HO_27 := n0_; have HO_8 := n5_; have BK218 := n1_; have BK219 := n2_; have HO231 := n3_; have HB := n4_; clear n0_ n1_ n2_ n3_ n4_ n5_; (try clear hb); (try clear hkp); (try clear ho0); (try clear hrow_)) | ((with_reducible refine gate_callee (f := 37) rfl ?_); refine goesL_ (some 38) rfl rfl Try.func37 (by kernel_rfl) rfl #[.slice Ao35 x8_2.length co35, .int .i64 (rd t225 x29_2)] rfl ze9 ?_; (with_reducible refine (spec_l1Has.calls k2 _ _ x8_2 (rd t225 x29_2) true _ ?side1 ?side2 A33.out).mono ?_); (case side1 => exact ze16); (case side2 => exact (Kd.R_reads' HO_8.out).2.1); rintro e w' ⟨rfl, ⟨nd, rfl⟩⟩; refine ⟨_, rfl, ?_⟩))
      go_roundg k2
      case measure => have := HJ3.out; have := HK2.out; omega
      case rel => exact ⟨(x8_2), (wrap64 (x29_2 + 1)), ze13, H', ⟨by have := HJ3.out; have := HK2.out; omega⟩, ⟨ze17⟩, ⟨ze21⟩, ⟨ze4⟩, ⟨ze5⟩, ⟨ze1⟩⟩
     replace c34 := Bool.eq_false_iff.mpr c34
     subst c34
     have H1 : ((spec_guPeace.f k2 a0_0 a0_1 l0_2 a1_0 a1_1 t229).bind fun t233 => (if t233 = true then (spec_FillPeaceful.l0 k2 t229 t225 (t225.length : Int) (wrap64 (x29_2 + 1)) a0_0 a0_1 l0_2 a1_0 a1_1) else (spec_FillPeaceful.l0 k2 x8_2 t225 (t225.length : Int) (wrap64 (x29_2 + 1)) a0_0 a0_1 l0_2 a1_0 a1_1))) = some (r1, r2) := by rw [if_neg (show ¬ (false = true) by decide)] at H; exact H
     clear H
     have H := H1
     clear H1
     replace H := Option.bind_eq_some_iff.mp H
     obtain ⟨t233, A370, H⟩ := H
     replace H : (if t233 = true then (spec_FillPeaceful.l0 k2 t229 t225 (t225.length : Int) (wrap64 (x29_2 + 1)) a0_0 a0_1 l0_2 a1_0 a1_1) else (spec_FillPeaceful.l0 k2 x8_2 t225 (t225.length : Int) (wrap64 (x29_2 + 1)) a0_0 a0_1 l0_2 a1_0 a1_1)) = some (r1, r2) := H
     have A37 := Aside0.mk A370
     clear A370
     by_cases c38 : t233 = true
     ·subst c38
      have H1 : (spec_FillPeaceful.l0 k2 t229 t225 (t225.length : Int) (wrap64 (x29_2 + 1)) a0_0 a0_1 l0_2 a1_0 a1_1) = some (r1, r2) := by rw [if_pos rfl] at H; exact H
      clear H
      have H := H1
      clear H1
      have H' := Aside0.mk H
      clear H
      have p228 : 0 ≤ (x29_2 : Int) := of_decide_eq_true ze8
      have q228 : x29_2 < (t225.length : Int) := of_decide_eq_true ze8
      obtain ⟨ad228, e228, hx228_0⟩ := Kd.at_int (Kd.R_reads' HO_27.out).2.2 x29_2 p228 q228
      cases e228
      replace p228 := eq_true p228
      replace q228 := eq_true q228
      obtain ⟨Ao39, co39, eo39⟩ := Kd.R_slice HO_8.out
      subst eo39
      go_wp2_with (first | ((with_reducible refine gate_callee (f := 36) rfl ?_); refine goesL_ (some 35) rfl rfl Try.func36 (by kernel_rfl) rfl #[.slice Ao39 x8_2.length co39, .int .i64 (rd t225 x29_2)] rfl ze9 ?_; (with_reducible refine (spec_l1Put.calls k2 (fun k_ => some k_ = (.slice Ao39 x8_2.length co39 : Value).ownBlock) (.slice Ao39 x8_2.length co39) x8_2 (rd t225 x29_2) t229 w _ ?side1 ?side2 A32.out).mono ?_); (case side1 => exact ze1); (case side2 => exact Kd.R_tight rfl HO_8.out); rintro e w40 ⟨v230, rfl, ho0, hrow_, hb, hkp⟩; refine ⟨_, rfl, ?_⟩; have n5_ := Aside0.mk (Kd.R_mono (ok' := fun k_ => some k_ ≠ (.slice (some ad228) t225.length co28 : Value).ownBlock) (Kd.R_tight rfl hrow_) (fun k_ hk_ => HO_8.out.1 k_ hk_.symm)); have n0_ := Aside0.mk (Kd.R_mono (ok' := fun k_ => some k_ ≠ (v230 : Value).ownBlock ∧ some k_ ≠ (.slice Ao39 x8_2.length co39 : Value).ownBlock) (Kd.R_keptB (HO_27.out) hkp (fun k_ hk_ hs_ => (hk_) hs_)) (fun k_ hk_ => ⟨fun e_ => Or.elim (ho0.1 k_ e_.symm) (fun hs_ => hk_.2.1 hs_) (fun hn_ => Nat.not_le.2 hk_.2.2 hn_), hk_.1⟩)); have n1_ := Aside0.mk (blk_kept ze4 hkp (fun hs_ => (fun e_ => (Kd.R_ne HO_8.out BK218.out (by decide)) e_) hs_)); have n2_ := Aside0.mk (blk_kept ze5 hkp (fun hs_ => (fun e_ => (Kd.R_ne HO_8.out BK219.out (by decide)) e_) hs_)); have n3_ := Aside0.mk (Kd.R_mono (ok' := fun k_ => some k_ ≠ (.slice (some ad228) t225.length co28 : Value).ownBlock) ho0 (fun k_ hk_ => Or.elim hk_ (fun hs_ => fun e_ => (((HO_27.out).1 k_ e_.symm)) hs_) (fun hn_ => (Kd.fresh' (Kd.R_lt ze12) k_ hn_)))); have n4_ := Aside0.mk (hb); clear HO_27; clear BK218; clear BK219; clear HB; clear HO_8; have HO_27 := n0_; have HO_8 := n5_; have BK218 := n1_; have BK219 := n2_; have HO231 := n3_; have HB := n4_; clear n0_ n1_ n2_ n3_ n4_ n5_; (try clear hb); (try clear hkp); (try clear ho0); (try clear hrow_)) | ((with_reducible refine gate_callee (f := 37) rfl ?_); refine goesL_ (some 38) rfl rfl Try.func37 (by kernel_rfl) rfl #[.slice Ao39 x8_2.length co39, .int .i64 (rd t225 x29_2)] rfl ze9 ?_; (with_reducible refine (spec_l1Has.calls k2 _ _ x8_2 (rd t225 x29_2) false _ ?side1 ?side2 A33.out).mono ?_); (case side1 => exact ze16); (case side2 => exact (Kd.R_reads' HO_8.out).2.1); rintro e w' ⟨rfl, ⟨nd, rfl⟩⟩; refine ⟨_, rfl, ?_⟩; have hnb41 := NB218_219.out; have hnc41 := NB219_218.out; have hcz42_0 : w40.cell? ⟨gb218, 0, none⟩ = some (.int .i64 a0_0) := (blk_cell BK218.out 0).trans rfl; have hcz42_1 : w40.cell? ⟨gb218, 1, none⟩ = some (.int .i64 a0_1) := (blk_cell BK218.out 1).trans rfl; have hcz42_2 : w40.cell? ⟨gb218, 2, none⟩ = some (.slice A0_2 l0_2.length c0_2) := (blk_cell BK218.out 2).trans rfl; have hfz42_0 := blk_frozen BK218.out 0; have hfz42_1 := blk_frozen BK218.out 1; have hfz42_2 := blk_frozen BK218.out 2; have hcz43_0 : w40.cell? ⟨gb219, 0, none⟩ = some (.int .i64 a1_0) := (blk_cell BK219.out 0).trans rfl; have hcz43_1 : w40.cell? ⟨gb219, 1, none⟩ = some (.int .i64 a1_1) := (blk_cell BK219.out 1).trans rfl; have hfz43_0 := blk_frozen BK219.out 0; have hfz43_1 := blk_frozen BK219.out 1; obtain ⟨Ao44, co44, eo44⟩ := Kd.R_slice HO231.out; subst eo44) | (go_at_call 34; (with_reducible refine (spec_guPeace.calls k2 a0_0 a0_1 _ _ l0_2 a1_0 a1_1 _ _ t229 true _ ?side1 ?side2 ?side3 ?side4 A37.out).mono ?_); (case side1 => exact ze22); (case side2 => exact HC0_2.out); (case side3 => exact ze20); (case side4 => exact (Kd.R_reads' HO231.out).2.1); rintro e w45 ⟨rfl, hb⟩; have n0_ := Aside0.mk (Kd.R_below ze12 hb); have n1_ := Aside0.mk (Kd.R_below ze19 hb); have n2_ := Aside0.mk (blk_below (g := gb218) (o := .cells #[.int .i64 a0_0, .int .i64 a0_1, .slice A0_2 l0_2.length c0_2] 31 (0, 0)) ze4 hb); have n3_ := Aside0.mk (blk_below (g := gb219) (o := .cells #[.int .i64 a1_0, .int .i64 a1_1] 33 (0, 0)) ze5 hb); have n4_ := Aside0.mk (below_step ze1 hb); have n9_ := Aside0.mk (Kd.R_below ze17 hb); clear HO_8; clear HO_27; clear HO231; clear BK218; clear BK219; clear HB; have HO_8 := n9_; have HO_27 := n0_; have HO231 := n1_; have BK218 := n2_; have BK219 := n3_; have HB := n4_; clear n0_ n1_ n2_ n3_ n4_ n9_; (try clear hb); (try clear hb2); (try clear hk); (try clear hi); (try clear hna_); (try clear hnb_)))
      go_roundg k2
      case measure => have := HJ3.out; have := HK2.out; omega
      case rel => exact ⟨(t229), (wrap64 (x29_2 + 1)), ze13, H', ⟨by have := HJ3.out; have := HK2.out; omega⟩, ⟨ze19⟩, ⟨by (with_reducible repeat (first | apply Kd.R_alloc | apply Kd.R_drewN | apply Kd.R_drew)); exact Kd.R_mono HO_27.out (fun _ hk => hk.1)⟩, ⟨ze4⟩, ⟨ze5⟩, ⟨ze1⟩⟩
     replace c38 := Bool.eq_false_iff.mpr c38
     subst c38
     have H1 : (spec_FillPeaceful.l0 k2 x8_2 t225 (t225.length : Int) (wrap64 (x29_2 + 1)) a0_0 a0_1 l0_2 a1_0 a1_1) = some (r1, r2) := by rw [if_neg (show ¬ (false = true) by decide)] at H; exact H
     clear H
     have H := H1
     clear H1
     have H' := Aside0.mk H
     clear H
     have p228 : 0 ≤ (x29_2 : Int) := of_decide_eq_true ze8
     have q228 : x29_2 < (t225.length : Int) := of_decide_eq_true ze8
     obtain ⟨ad228, e228, hx228_0⟩ := Kd.at_int (Kd.R_reads' HO_27.out).2.2 x29_2 p228 q228
     cases e228
     replace p228 := eq_true p228
     replace q228 := eq_true q228
     obtain ⟨Ao46, co46, eo46⟩ := Kd.R_slice HO_8.out
     subst eo46
     go_wp2_with (first | ((with_reducible refine gate_callee (f := 36) rfl ?_); refine goesL_ (some 35) rfl rfl Try.func36 (by kernel_rfl) rfl #[.slice Ao46 x8_2.length co46, .int .i64 (rd t225 x29_2)] rfl ze9 ?_; (with_reducible refine (spec_l1Put.calls k2 (fun k_ => some k_ = (.slice Ao46 x8_2.length co46 : Value).ownBlock) (.slice Ao46 x8_2.length co46) x8_2 (rd t225 x29_2) t229 w _ ?side1 ?side2 A32.out).mono ?_); (case side1 => exact ze1); (case side2 => exact Kd.R_tight rfl HO_8.out); rintro e w47 ⟨v230, rfl, ho0, hrow_, hb, hkp⟩; refine ⟨_, rfl, ?_⟩; have n5_ := Aside0.mk (Kd.R_mono (ok' := fun k_ => some k_ ≠ (.slice (some ad228) t225.length co28 : Value).ownBlock) (Kd.R_tight rfl hrow_) (fun k_ hk_ => HO_8.out.1 k_ hk_.symm)); have n0_ := Aside0.mk (Kd.R_mono (ok' := fun k_ => some k_ ≠ (v230 : Value).ownBlock ∧ some k_ ≠ (.slice Ao46 x8_2.length co46 : Value).ownBlock) (Kd.R_keptB (HO_27.out) hkp (fun k_ hk_ hs_ => (hk_) hs_)) (fun k_ hk_ => ⟨fun e_ => Or.elim (ho0.1 k_ e_.symm) (fun hs_ => hk_.2.1 hs_) (fun hn_ => Nat.not_le.2 hk_.2.2 hn_), hk_.1⟩)); have n1_ := Aside0.mk (blk_kept ze4 hkp (fun hs_ => (fun e_ => (Kd.R_ne HO_8.out BK218.out (by decide)) e_) hs_)); have n2_ := Aside0.mk (blk_kept ze5 hkp (fun hs_ => (fun e_ => (Kd.R_ne HO_8.out BK219.out (by decide)) e_) hs_)); have n3_ := Aside0.mk (Kd.R_mono (ok' := fun k_ => some k_ ≠ (.slice (some ad228) t225.length co28 : Value).ownBlock) ho0 (fun k_ hk_ => Or.elim hk_ (fun hs_ => fun e_ => (((HO_27.out).1 k_ e_.symm)) hs_) (fun hn_ => (Kd.fresh' (Kd.R_lt ze12) k_ hn_)))); have n4_ := Aside0.mk (hb); clear HO_27; clear BK218; clear BK219; clear HB; clear HO_8; have HO_27 := n0_; have HO_8 := n5_; have BK218 := n1_; have BK219 := n2_; have HO231 := n3_; have HB := n4_; clear n0_ n1_ n2_ n3_ n4_ n5_; (try clear hb); (try clear hkp); (try clear ho0); (try clear hrow_)) | ((with_reducible refine gate_callee (f := 37) rfl ?_); refine goesL_ (some 38) rfl rfl Try.func37 (by kernel_rfl) rfl #[.slice Ao46 x8_2.length co46, .int .i64 (rd t225 x29_2)] rfl ze9 ?_; (with_reducible refine (spec_l1Has.calls k2 _ _ x8_2 (rd t225 x29_2) false _ ?side1 ?side2 A33.out).mono ?_); (case side1 => exact ze16); (case side2 => exact (Kd.R_reads' HO_8.out).2.1); rintro e w' ⟨rfl, ⟨nd, rfl⟩⟩; refine ⟨_, rfl, ?_⟩; have hnb48 := NB218_219.out; have hnc48 := NB219_218.out; have hcz49_0 : w47.cell? ⟨gb218, 0, none⟩ = some (.int .i64 a0_0) := (blk_cell BK218.out 0).trans rfl; have hcz49_1 : w47.cell? ⟨gb218, 1, none⟩ = some (.int .i64 a0_1) := (blk_cell BK218.out 1).trans rfl; have hcz49_2 : w47.cell? ⟨gb218, 2, none⟩ = some (.slice A0_2 l0_2.length c0_2) := (blk_cell BK218.out 2).trans rfl; have hfz49_0 := blk_frozen BK218.out 0; have hfz49_1 := blk_frozen BK218.out 1; have hfz49_2 := blk_frozen BK218.out 2; have hcz50_0 : w47.cell? ⟨gb219, 0, none⟩ = some (.int .i64 a1_0) := (blk_cell BK219.out 0).trans rfl; have hcz50_1 : w47.cell? ⟨gb219, 1, none⟩ = some (.int .i64 a1_1) := (blk_cell BK219.out 1).trans rfl; have hfz50_0 := blk_frozen BK219.out 0; have hfz50_1 := blk_frozen BK219.out 1; obtain ⟨Ao51, co51, eo51⟩ := Kd.R_slice HO231.out; subst eo51) | (go_at_call 34; (with_reducible refine (spec_guPeace.calls k2 a0_0 a0_1 _ _ l0_2 a1_0 a1_1 _ _ t229 false _ ?side1 ?side2 ?side3 ?side4 A37.out).mono ?_); (case side1 => exact ze22); (case side2 => exact HC0_2.out); (case side3 => exact ze20); (case side4 => exact (Kd.R_reads' HO231.out).2.1); rintro e w52 ⟨rfl, hb⟩; have n0_ := Aside0.mk (Kd.R_below ze12 hb); have n1_ := Aside0.mk (Kd.R_below ze19 hb); have n2_ := Aside0.mk (blk_below (g := gb218) (o := .cells #[.int .i64 a0_0, .int .i64 a0_1, .slice A0_2 l0_2.length c0_2] 31 (0, 0)) ze4 hb); have n3_ := Aside0.mk (blk_below (g := gb219) (o := .cells #[.int .i64 a1_0, .int .i64 a1_1] 33 (0, 0)) ze5 hb); have n4_ := Aside0.mk (below_step ze1 hb); have n9_ := Aside0.mk (Kd.R_below ze17 hb); clear HO_8; clear HO_27; clear HO231; clear BK218; clear BK219; clear HB; have HO_8 := n9_; have HO_27 := n0_; have HO231 := n1_; have BK218 := n2_; have BK219 := n3_; have HB := n4_; clear n0_ n1_ n2_ n3_ n4_ n9_; (try clear hb); (try clear hb2); (try clear hk); (try clear hi); (try clear hna_); (try clear hnb_)))
     go_roundg k2
     case measure => have := HJ3.out; have := HK2.out; omega
     case rel => exact ⟨(x8_2), (wrap64 (x29_2 + 1)), ze13, H', ⟨by have := HJ3.out; have := HK2.out; omega⟩, ⟨ze17⟩, ⟨ze21⟩, ⟨ze4⟩, ⟨ze5⟩, ⟨ze1⟩⟩

/-! ### impl_sized: function 76 -/
def impl_sized.f (a0 : Int) : Option (Bool) := if a0 ≥ 1 then (some (decide (a0 ≤ 8))) else (some false)
set_option maxHeartbeats 8000000 in
set_option maxRecDepth 100000 in
theorem impl_sized.calls (a0 : Int) (r : Bool) (w : World) (h : impl_sized.f a0 = some r) :
  Calls Try.prog 76 #[.int .i64 a0] w fun e w' => e = .returned (.bool r) ∧ Drawn0 w w' := by
 have H : (if a0 ≥ 1 then (some (decide (a0 ≤ 8))) else (some false)) = some r := h
 clear h
 by_cases c2 : a0 ≥ 1
 ·rw [if_pos c2] at H
  have c2b0 : decide (1 ≤ a0) = true := decide_eq_true c2
  clear c2
  obtain rfl := Option.some.inj H
  go_enter Try.func76, Try.ntmps76
  go_wp2
  go_ret
  exact ⟨ze13, by repeat (first | exact Drawn0.refl _ | apply Drawn0.step)⟩
 rw [if_neg c2] at H
 have c2b0 : decide (1 ≤ a0) = false := decide_eq_false c2
 clear c2
 obtain rfl := Option.some.inj H
 go_enter Try.func76, Try.ntmps76
 go_wp2
 go_ret
 exact ⟨ze13, by repeat (first | exact Drawn0.refl _ | apply Drawn0.step)⟩

end Go.Proofs.Ytemaokhlolimhaa.Q

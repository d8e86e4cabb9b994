/- Written by a program of this session: functions of the translation as plain Lean functions, each with a proof that the call does what the plain function says; the conditions stand in each theorem. -/
import Derived.Test.YtjeongckkfkehaaQ0
import Derived.Test.YtjeongckkfkehaaQ1
import Derived.Test.YtjeongckkfkehaaQ2
import Derived.Test.YtjeongckkfkehaaQ5
import Derived.Test.YtjeongckkfkehaaQ11
import Derived.Test.YtjeongckkfkehaaQ28
namespace Go.Proofs.Ytjeongckkfkehaa.Q
open Go.RowKit Go.Proofs.YtjeongckkfkehaaW.PrintWords Go.Proofs.YtjeongckkfkehaaW.PrintLast Go.Proofs.YtjeongckkfkehaaW.PrintMore
attribute [local go_sem] max2_int min2_int max_two min_two max_three min_three max_four min_four   -- for this text's walks alone
set_option linter.unusedVariables false
set_option linter.unusedSimpArgs false

theorem zad1 {p : Prop} (h : p := by repeat (first | (with_reducible first | exact HB.out | apply below_alloc | apply pw_below_drewN | apply below_drew1 | refine below_set ?_ GE729.out | refine below_set ?_ GE730.out | refine below_set ?_ GE751.out) | exact HB.out)) : p := h
theorem zad2 {p : Prop} (h : p := by (with_reducible repeat (first | refine blk_drewN ?_ _ | refine blk_drew ?_ | refine blk_alloc ?_ _)); exact BK729.out) : p := h
theorem zad3 {p : Prop} (h : p := by (try simp only [List.map_toArray, List.map_cons, List.map_nil]); first | done | rfl | (simp only [List.length_drop, List.length_take]; rfl)) : p := h
theorem zad4 {p : Prop} (h : p := by (with_reducible repeat (first | refine blk_drewN ?_ _ | refine blk_drew ?_ | refine blk_alloc ?_ _)); exact BK730.out) : p := h
theorem zad6 {p : Prop} (h : p := by repeat (first | (with_reducible first | exact HB.out | apply below_alloc | apply pw_below_drewN | apply below_drew1 | refine below_set ?_ GE729.out | refine below_set ?_ GE730.out) | exact HB.out)) : p := h
theorem zad7 {p : Prop} (h : p := by (with_reducible repeat (first | refine blk_drewN ?_ _ | refine blk_drew ?_ | refine blk_alloc ?_ _)); exact BK751.out) : p := h
theorem zad8 {p : Prop} (h : p := by (with_reducible repeat (first | apply Kd.R_alloc | apply Kd.R_drewN | apply Kd.R_drew)); exact HO_752002.out) : p := h
theorem zad9 {p : Prop} (h : p := by (with_reducible repeat (first | apply Kd.R_alloc | apply Kd.R_drewN | apply Kd.R_drew)); exact HO_12.out) : p := h
theorem zad10 {p : Prop} (h : p := by (with_reducible repeat (first | apply Kd.R_alloc | apply Kd.R_drewN | apply Kd.R_drew)); exact HO_8.out) : p := h
theorem zad11 {p : Prop} (h : p := by repeat (first | (with_reducible first | exact HB.out | apply below_alloc | apply pw_below_drewN | apply below_drew1 | refine below_set ?_ GE729.out) | exact HB.out)) : p := h
theorem zad12 {p : Prop} (h : p := by (with_reducible repeat (first | apply Kd.R_alloc | apply Kd.R_drewN | apply Kd.R_drew)); exact HO_11.out) : p := h
theorem zad13 {p : Prop} (h : p := by repeat (first | exact (Kd.C_below HR0_2.out HB.out) | (with_reducible refine Kd.C_alloc ?_ _) | (with_reducible refine Kd.C_drewN ?_ _) | (with_reducible refine Kd.C_drew ?_))) : p := h
theorem zad14 {p : Prop} (h : p := by repeat (first | exact (Kd.R_reads' HO_12.out).2.2 | (with_reducible refine Kd.C_alloc ?_ _) | (with_reducible refine Kd.C_drewN ?_ _) | (with_reducible refine Kd.C_drew ?_))) : p := h
theorem zad15 {p : Prop} (h : p := by repeat (first | (with_reducible first | exact HB.out | apply below_alloc | apply pw_below_drewN | apply below_drew1) | exact HB.out)) : p := h
theorem zad16 {p : Prop} (h : p := by (with_reducible repeat (first | apply Kd.R_alloc | apply Kd.R_drewN | apply Kd.R_drew)); exact HO736.out) : p := h
theorem zad17 {p : Prop} (h : p := by first | rfl | (simp [errW_none, errW_some] <;> rfl) | (simp [*, errW_none, errW_some] <;> rfl)) : p := h
theorem zad18 {p : Prop} (h : p := by (with_reducible repeat (first | apply Kd.R_alloc | apply Kd.R_drewN | apply Kd.R_drew)); exact HO741.out) : p := h
theorem zad19 {p : Prop} (h : p := by (with_reducible repeat (first | apply Kd.R_alloc | apply Kd.R_drewN | apply Kd.R_drew)); exact HO766.out) : p := h
theorem zad20 {p : Prop} (h : p := by (with_reducible repeat (first | apply Kd.R_alloc | apply Kd.R_drewN | apply Kd.R_drew)); exact HO744.out) : p := h
theorem zad21 {p : Prop} (h : p := by repeat (first | exact (Kd.C_below HR2.out HB.out) | (with_reducible refine Kd.C_alloc ?_ _) | (with_reducible refine Kd.C_drewN ?_ _) | (with_reducible refine Kd.C_drew ?_))) : p := h
theorem zad22 {p : Prop} (h : p := by repeat (first | exact (Kd.R_reads' HO_8.out).2.2 | (with_reducible refine Kd.C_alloc ?_ _) | (with_reducible refine Kd.C_drewN ?_ _) | (with_reducible refine Kd.C_drew ?_))) : p := h
theorem zad23 {p : Prop} (h : p := by (try simp only [List.map_toArray, List.map_cons, List.map_nil]); first | done | (rw [show t778.length = t757.length from (Kd.R_reads' HO_12.out).1.symm] <;> rfl) | rfl | (simp only [List.length_drop, List.length_take]; rfl)) : p := h
theorem zad24 {p : Prop} (h : p := by (with_reducible repeat (first | apply Kd.R_alloc | apply Kd.R_drewN | apply Kd.R_drew)); exact (Kd.R_mono (Kd.R_far (p := ⟨gb751, 2, none⟩) (Kd.R_far (p := ⟨gb751, 1, none⟩) (Kd.R_far (p := ⟨gb751, 0, none⟩) (Kd.R_types HO750.out BK751.out (by decide)) (fun _ hk => hk.2) (.int .i64 t746)) (fun _ hk => hk.2) (.int .i64 t747)) (fun _ hk => hk.2) (.slice Ao41 t748.length co41)) (fun _ h_ => h_.1))) : p := h
theorem zad25 {p : Prop} (h : p := by (with_reducible repeat (first | apply Kd.R_alloc | apply Kd.R_drewN | apply Kd.R_drew)); exact (Kd.R_mono (Kd.R_far (p := ⟨gb751, 2, none⟩) (Kd.R_far (p := ⟨gb751, 1, none⟩) (Kd.R_far (p := ⟨gb751, 0, none⟩) (Kd.R_types HO744.out BK751.out (by decide)) (fun _ hk => hk.2) (.int .i64 t746)) (fun _ hk => hk.2) (.int .i64 t747)) (fun _ hk => hk.2) (.slice Ao41 t748.length co41)) (fun _ h_ => h_.1))) : p := h
theorem zad26 {p : Prop} (h : p := by (with_reducible repeat (first | apply Kd.R_alloc | apply Kd.R_drewN | apply Kd.R_drew)); exact (Kd.R_mono (Kd.R_far (p := ⟨gb751, 2, none⟩) (Kd.R_far (p := ⟨gb751, 1, none⟩) (Kd.R_far (p := ⟨gb751, 0, none⟩) (Kd.R_types HO741.out BK751.out (by decide)) (fun _ hk => hk.2) (.int .i64 t746)) (fun _ hk => hk.2) (.int .i64 t747)) (fun _ hk => hk.2) (.slice Ao41 t748.length co41)) (fun _ h_ => h_.1))) : p := h
theorem zad27 {p : Prop} (h : p := by (with_reducible repeat (first | apply Kd.R_alloc | apply Kd.R_drewN | apply Kd.R_drew)); exact (Kd.R_mono (Kd.R_far (p := ⟨gb751, 2, none⟩) (Kd.R_far (p := ⟨gb751, 1, none⟩) (Kd.R_far (p := ⟨gb751, 0, none⟩) (Kd.R_types HO736.out BK751.out (by decide)) (fun _ hk => hk.2) (.int .i64 t746)) (fun _ hk => hk.2) (.int .i64 t747)) (fun _ hk => hk.2) (.slice Ao41 t748.length co41)) (fun _ h_ => h_.1))) : p := h
theorem zad28 {p : Prop} (h : p := by (with_reducible repeat (first | apply Kd.R_alloc | apply Kd.R_drewN | apply Kd.R_drew)); exact HO784.out) : p := h
theorem zad29 {p : Prop} (h : p := by repeat (first | exact (Kd.R_reads' HO_752002.out).2.2 | (with_reducible refine Kd.C_alloc ?_ _) | (with_reducible refine Kd.C_drewN ?_ _) | (with_reducible refine Kd.C_drew ?_))) : p := h
theorem zad30 {p : Prop} (h : p := by repeat (first | exact (Kd.R_reads' HO766.out).2.2 | (with_reducible refine Kd.C_alloc ?_ _) | (with_reducible refine Kd.C_drewN ?_ _) | (with_reducible refine Kd.C_drew ?_))) : p := h
theorem zad31 {p : Prop} (h : p := by (with_reducible repeat (first | apply Kd.R_alloc | apply Kd.R_drewN | apply Kd.R_drew)); exact HO750.out) : p := h
theorem zad32 {p : Prop} (h : p := by (with_reducible repeat (first | apply Kd.R_alloc | apply Kd.R_drewN | apply Kd.R_drew)); exact Kd.R_mono HO_752002.out (fun _ hk => ⟨hk.1, hk.2.2.1⟩)) : p := h
theorem zad33 {p : Prop} (h : p := by (with_reducible repeat (first | apply Kd.R_alloc | apply Kd.R_drewN | apply Kd.R_drew)); exact Kd.R_mono HO_8.out (fun _ hk => ⟨hk.2.1, hk.2.2.1⟩)) : p := h
theorem zad34 {p : Prop} (h : p := by (with_reducible repeat (first | apply Kd.R_alloc | apply Kd.R_drewN | apply Kd.R_drew)); exact Kd.R_mono HO_12.out (fun _ hk => ⟨hk.1, hk.2.2.1⟩)) : p := h
theorem zad35 {p : Prop} (h : p := by first | rfl | (simp; done) | (simp [*]; done)) : p := h
theorem zad36 {p : Prop} (h : p := by (with_reducible repeat (first | apply Kd.R_alloc | apply Kd.R_drewN | apply Kd.R_drew)); exact HO754.out) : p := h
theorem zad37 {p : Prop} (h : p := by rw [show t778.length = t757.length from (Kd.R_reads' HO_12.out).1.symm]; exact (Kd.R_reads' HO_12.out).2.1) : p := h
theorem zad38 {p : Prop} (h : p := by (try simp only [hl752002_61]); (with_reducible repeat (first | apply Kd.R_alloc | apply Kd.R_drewN | apply Kd.R_drew)); exact Kd.R_mono HO_752002.out (fun _ hk => hk.1.1.1.2)) : p := h
theorem zad39 {p : Prop} (h : p := by (try simp only [hl752002_61]); (with_reducible repeat (first | apply Kd.R_alloc | apply Kd.R_drewN | apply Kd.R_drew)); exact Kd.R_mono HO_12.out (fun _ hk => hk.1.1.1.2)) : p := h
theorem zad40 {p : Prop} (h : p := by (with_reducible repeat (first | apply Kd.R_alloc | apply Kd.R_drewN | apply Kd.R_drew)); exact Kd.R_mono HO759.out (fun _ hk => ⟨hk.1.1.2, ⟨hk.2, hk.1.2⟩⟩)) : p := h
theorem zad41 {p : Prop} (h : p := by (with_reducible repeat (first | apply Kd.R_alloc | apply Kd.R_drewN | apply Kd.R_drew)); exact Kd.R_mono HO754.out (fun _ hk => ⟨hk.1.1.2, ⟨hk.2, hk.1.2⟩⟩)) : p := h
theorem zad42 {p : Prop} (h : p := by (with_reducible repeat (first | apply Kd.R_alloc | apply Kd.R_drewN | apply Kd.R_drew)); exact Kd.R_mono HO750.out (fun _ hk => ⟨hk.1.1.2, ⟨hk.1.2, hk.2⟩⟩)) : p := h
theorem zad43 {p : Prop} (h : p := by (with_reducible repeat (first | apply Kd.R_alloc | apply Kd.R_drewN | apply Kd.R_drew)); exact Kd.R_mono HO744.out (fun _ hk => ⟨hk.1.2, ⟨hk.2, hk.1.1.2⟩⟩)) : p := h
theorem zad44 {p : Prop} (h : p := by repeat (first | exact (Kd.R_reads' HO_11.out).2.2 | (with_reducible refine Kd.C_alloc ?_ _) | (with_reducible refine Kd.C_drewN ?_ _) | (with_reducible refine Kd.C_drew ?_))) : p := h
theorem zad45 {p : Prop} (h : p := by repeat (first | exact (Kd.R_reads' HO792.out).2.2 | (with_reducible refine Kd.C_alloc ?_ _) | (with_reducible refine Kd.C_drewN ?_ _) | (with_reducible refine Kd.C_drew ?_))) : p := h
theorem zad46 {p : Prop} (h : p := by repeat (first | exact (Kd.R_reads' HO770.out).2.2 | (with_reducible refine Kd.C_alloc ?_ _) | (with_reducible refine Kd.C_drewN ?_ _) | (with_reducible refine Kd.C_drew ?_))) : p := h
theorem zad47 {p : Prop} (h : p := by repeat (first | exact (Kd.R_reads' HO759.out).2.2 | (with_reducible refine Kd.C_alloc ?_ _) | (with_reducible refine Kd.C_drewN ?_ _) | (with_reducible refine Kd.C_drew ?_))) : p := h
theorem zad48 {p : Prop} (h : p := by repeat (first | exact (Kd.R_reads' HO744.out).2.2 | (with_reducible refine Kd.C_alloc ?_ _) | (with_reducible refine Kd.C_drewN ?_ _) | (with_reducible refine Kd.C_drew ?_))) : p := h
theorem zad49 {p : Prop} (h : p := by (try simp only [hl752002_61]); (with_reducible repeat (first | refine blk_drewN ?_ _ | refine blk_drew ?_ | refine blk_alloc ?_ _)); exact BK751.out) : p := h
theorem zad50 {p : Prop} (h : p := by (try simp only [hl752002_61]); (with_reducible repeat (first | refine blk_drewN ?_ _ | refine blk_drew ?_ | refine blk_alloc ?_ _)); exact BK730.out) : p := h
theorem zad51 {p : Prop} (h : p := by (try simp only [hl752002_61]); (with_reducible repeat (first | refine blk_drewN ?_ _ | refine blk_drew ?_ | refine blk_alloc ?_ _)); exact BK729.out) : p := h
theorem zad52 {p : Prop} (h : p := by rw [hg]; exact Nat.ne_of_lt (blk_lt (g := gb729) (o := .cells #[.int .i64 a0_0, .int .i64 a0_1, .slice A0_2 l0_2.length c0_2] 24 (0, 0)) zad2)) : p := h
theorem zad53 {p : Prop} (h : p := by rw [hg]; exact Nat.ne_of_gt (blk_lt (g := gb729) (o := .cells #[.int .i64 a0_0, .int .i64 a0_1, .slice A0_2 l0_2.length c0_2] 24 (0, 0)) zad2)) : p := h
theorem zad54 {p : Prop} (h : p := by rw [hg]; exact (below_size zad15)) : p := h
theorem zad55 {p : Prop} (h : p := by rw [hg]; exact (below_size zad11)) : p := h
/-! ### laws_FnExactReverseWalk: function 7 -/
mutual
def laws_FnExactReverseWalk.j0 : Nat → List Int → List Int → Bool → List Int → List Int → Bool → Bool → Int → Int → List Int → Int → Int → Int → Int → List Int → Option (Bool)
 | 0, _, _, _, _, _, _, _, _, _, _, _, _, _, _, _ => none
 | k + 1, x2, x8, x9, x11, x12, x13, x57, x730000, x730001, x730002, x731000, x731001, x752000, x752001, x752002 => if x57 = true then (some false) else ((laws_toBoard.f k x730000 x730001 x730002).bind fun bt762 => ((laws_eqBoard.f k x752000 x752001 x752002 bt762.1 bt762.2.1 bt762.2.2).bind fun t767 => (if t767 = true then ((laws_toIntS.f k x2).bind fun t768 => ((laws_eqIntS.f k x11 t768).bind fun t771 => (if t771 = true then ((laws_markBoard.f k x752000 x752001 x752002 1).bind fun bt772 => ((laws_markIntS.f k x11 bt772.1).bind fun bt774 => (if bt774.1 < 0 then (laws_FnExactReverseWalk.j1 k x2 x8 x9 x12 true x730000 x730001 x730002 x731000 x731001) else ((laws_eqIntS.f k x12 x8).bind fun t776 => (if t776 = true then (laws_FnExactReverseWalk.j1 k x2 x8 x9 x12 (x13 != x9) x730000 x730001 x730002 x731000 x731001) else (laws_FnExactReverseWalk.j1 k x2 x8 x9 x12 true x730000 x730001 x730002 x731000 x731001)))))) else (some false)))) else (some false))))
def laws_FnExactReverseWalk.j1 : Nat → List Int → List Int → Bool → List Int → Bool → Int → Int → List Int → Int → Int → Option (Bool)
 | 0, _, _, _, _, _, _, _, _, _, _ => none
 | k + 1, x2, x8, x9, x12, x86, x730000, x730001, x730002, x731000, x731001 => if x86 = true then (some false) else ((laws_markIntS.f k x12 1).bind fun bt777 => ((laws_heldIntS.f k bt777.2 1).bind fun t779 => (if t779 < 0 then (some false) else (if t779 = bt777.1 then ((laws_toBoard.f k x730000 x730001 x730002).bind fun bt780 => ((laws_toLeaper.f x731000 x731001).bind fun bt785 => ((laws_toIntS.f k x2).bind fun t787 => ((impl_ReverseWalk.f k bt780.1 bt780.2.1 bt780.2.2 bt785.1 bt785.2 t787).bind fun bt790 => ((laws_eqIntS.f k bt790.1 x8).bind fun t794 => (if t794 = true then (laws_FnExactReverseWalk.j2 k bt777.2 bt777.1 (bt790.2 != x9)) else (laws_FnExactReverseWalk.j2 k bt777.2 bt777.1 true))))))) else (some false)))))
def laws_FnExactReverseWalk.j2 : Nat → List Int → Int → Bool → Option (Bool)
 | 0, _, _, _ => none
 | k + 1, x12, x15, x116 => if x116 = true then (some false) else ((laws_heldIntS.f k x12 1).bind fun t795 => (if t795 < 0 then (some false) else (if t795 = x15 then (some true) else (some false))))
end
def laws_FnExactReverseWalk.f (k : Nat) (a0_0 : Int) (a0_1 : Int) (l0_2 : List Int) (a1_0 : Int) (a1_1 : Int) (l2 : List Int) : Option (Bool) := if (l2.length : Int) > 1048576 then (some true) else ((laws_szBoard.f a0_0 a0_1 l0_2 1048576).bind fun t731 => (if t731 < 0 then (some true) else ((laws_toBoard.f k a0_0 a0_1 l0_2).bind fun bt732 => ((laws_toLeaper.f a1_0 a1_1).bind fun bt737 => ((laws_toIntS.f k l2).bind fun t739 => ((spec_ReverseWalk.f k bt732.1 bt732.2.1 bt732.2.2 bt737.1 bt737.2 t739).bind fun bt742 => ((laws_toBoard.f k a0_0 a0_1 l0_2).bind fun bt746 => ((laws_toIntS.f k l2).bind fun t752 => ((laws_toLeaper.f a1_0 a1_1).bind fun bt755 => ((impl_ReverseWalk.f k bt746.1 bt746.2.1 bt746.2.2 bt755.1 bt755.2 t752).bind fun bt757 => ((laws_eqIntS.f k bt757.1 bt742.1).bind fun t761 => (if t761 = true then (laws_FnExactReverseWalk.j0 k l2 bt742.1 bt742.2 t752 bt757.1 bt757.2 (bt757.2 != bt742.2) a0_0 a0_1 l0_2 a1_0 a1_1 bt746.1 bt746.2.1 bt746.2.2) else (laws_FnExactReverseWalk.j0 k l2 bt742.1 bt742.2 t752 bt757.1 bt757.2 true a0_0 a0_1 l0_2 a1_0 a1_1 bt746.1 bt746.2.1 bt746.2.2)))))))))))))
def laws_FnExactReverseWalk.T7 : Bool × List (List Nat × List Nat) := (true, [([], []), ([0], [0]), ([], []), ([2, 1], [2]), ([], []), ([4, 3], [4]), ([1, 3, 5, 5], [1, 3, 5]), ([6], [6]), ([7], [7]), ([7], [7]), ([8, 6, 0, 1, 2, 3, 4, 5, 6, 7, 8], [8]), ([9, 10, 0, 1, 2, 3, 4, 5, 6, 7, 8, 9, 10], [9])])
def laws_FnExactReverseWalk.B7 : List Nat := [0, 1, 0, 7, 0, 31, 63, 127, 255, 255, 511, 2047]
theorem laws_FnExactReverseWalk.tab7 : rtab .any (opsOf Try.f7 7) = laws_FnExactReverseWalk.T7 := by kernel_rfl
theorem laws_FnExactReverseWalk.bits7 : waitsOk laws_FnExactReverseWalk.T7.2 laws_FnExactReverseWalk.B7 = true := by kernel_rfl
def laws_FnExactReverseWalk.T10 : Bool × List (List Nat × List Nat) := (true, [([], []), ([], []), ([1], [1]), ([], []), ([0, 2, 3, 2], [0, 2, 3]), ([4], [4]), ([5], [5]), ([5], [5]), ([6, 4, 0, 1, 2, 3, 4, 5, 6], [6]), ([7, 8, 0, 1, 2, 3, 4, 5, 6, 7, 8], [7])])
def laws_FnExactReverseWalk.B10 : List Nat := [0, 0, 2, 0, 15, 31, 63, 63, 127, 511]
theorem laws_FnExactReverseWalk.tab10 : rtab .any (opsOf Try.f7 10) = laws_FnExactReverseWalk.T10 := by kernel_rfl
theorem laws_FnExactReverseWalk.bits10 : waitsOk laws_FnExactReverseWalk.T10.2 laws_FnExactReverseWalk.B10 = true := by kernel_rfl
def laws_FnExactReverseWalk.T30 : Bool × List (List Nat × List Nat) := (true, [([], []), ([0], [0]), ([], []), ([2, 1], [2]), ([], []), ([4, 3], [4]), ([1, 3, 5, 5], [1, 3, 5]), ([6], [6]), ([7], [7]), ([7], [7]), ([8, 6, 0, 1, 2, 3, 4, 5, 6, 7, 8], [8]), ([9, 10, 0, 1, 2, 3, 4, 5, 6, 7, 8, 9, 10], [9])])
def laws_FnExactReverseWalk.B30 : List Nat := [0, 1, 0, 7, 0, 31, 63, 127, 255, 255, 511, 2047]
theorem laws_FnExactReverseWalk.tab30 : rtab .any (opsOf Try.f7 30) = laws_FnExactReverseWalk.T30 := by kernel_rfl
theorem laws_FnExactReverseWalk.bits30 : waitsOk laws_FnExactReverseWalk.T30.2 laws_FnExactReverseWalk.B30 = true := by kernel_rfl
set_option maxHeartbeats 8000000 in
set_option maxRecDepth 100000 in
theorem laws_FnExactReverseWalk.calls (k : Nat) (a0_0 : Int) (a0_1 : Int) (A0_2 : Option Addr) (c0_2 : Nat) (l0_2 : List Int) (a1_0 : Int) (a1_1 : Int) (A2 : Option Addr) (c2 : Nat) (l2 : List Int) (r : Bool) (w : World) (hr0_2 : Kd.C (Kd.int .i64) w A0_2 l0_2.length l0_2) (hc0_2 : l0_2.length ≤ c0_2) (hr2 : Kd.C (Kd.int .i64) w A2 l2.length l2) (hc2 : l2.length ≤ c2) (h : laws_FnExactReverseWalk.f k a0_0 a0_1 l0_2 a1_0 a1_1 l2 = some r) :
  Calls Try.prog 7 #[.agg #[.int .i64 a0_0, .int .i64 a0_1, .slice A0_2 l0_2.length c0_2], .agg #[.int .i64 a1_0, .int .i64 a1_1], .slice A2 l2.length c2] w fun e w' => e = .returned (.bool r) ∧ Below w.heap.size w w' := by
 have hu24 := Try.underlying24
 have hu26 := Try.underlying26
 have hu30 := Try.underlying30
 have HR0_2 := Aside0.mk hr0_2
 have HC0_2 := Aside0.mk hc0_2
 clear hr0_2 hc0_2
 have HR2 := Aside0.mk hr2
 have HC2 := Aside0.mk hc2
 clear hr2 hc2
 have HB := Aside0.mk (Below.refl w.heap.size w)
 have H : (if (l2.length : Int) > 1048576 then (some true) else ((laws_szBoard.f a0_0 a0_1 l0_2 1048576).bind fun t731 => (if t731 < 0 then (some true) else ((laws_toBoard.f k a0_0 a0_1 l0_2).bind fun bt732 => ((laws_toLeaper.f a1_0 a1_1).bind fun bt737 => ((laws_toIntS.f k l2).bind fun t739 => ((spec_ReverseWalk.f k bt732.1 bt732.2.1 bt732.2.2 bt737.1 bt737.2 t739).bind fun bt742 => ((laws_toBoard.f k a0_0 a0_1 l0_2).bind fun bt746 => ((laws_toIntS.f k l2).bind fun t752 => ((laws_toLeaper.f a1_0 a1_1).bind fun bt755 => ((impl_ReverseWalk.f k bt746.1 bt746.2.1 bt746.2.2 bt755.1 bt755.2 t752).bind fun bt757 => ((laws_eqIntS.f k bt757.1 bt742.1).bind fun t761 => (if t761 = true then (laws_FnExactReverseWalk.j0 k l2 bt742.1 bt742.2 t752 bt757.1 bt757.2 (bt757.2 != bt742.2) a0_0 a0_1 l0_2 a1_0 a1_1 bt746.1 bt746.2.1 bt746.2.2) else (laws_FnExactReverseWalk.j0 k l2 bt742.1 bt742.2 t752 bt757.1 bt757.2 true a0_0 a0_1 l0_2 a1_0 a1_1 bt746.1 bt746.2.1 bt746.2.2)))))))))))))) = some r := h
 clear h
 by_cases c4 : (l2.length : Int) > 1048576
 ·rw [if_pos c4] at H
  have c4b0 : decide (1048576 < (l2.length : Int)) = true := decide_eq_true c4
  have c4b1 : decide (1048576 < l2.length) = true := decide_eq_true (by omega)
  clear c4
  obtain rfl := Option.some.inj H
  go_enter Try.func7, Try.ntmps7
  go_wp2_with (first | ((with_reducible refine gate_dst (N := 3) rfl ?_); refine box_event ?hg (N := 3) ?hd (cs := #[.int .i64 a0_0, .int .i64 a0_1, .slice A0_2 l0_2.length c0_2]) (t := 24) ?hr ?_; (case hd => rfl); (case hg => rfl); (case hr => first | (go_simp; done) | (go_simp; rfl)); intro gb729 hg w5 hbox hb; have n0_ := Aside0.mk (below_step zad15 hb); have n1_ := Aside0.mk (hbox); have n2_ := Aside0.mk ((zad54 : w.heap.size ≤ gb729)); have n3_ := Aside0.mk ((zad54 : w.heap.size ≤ gb729)); clear HB; have HB := n0_; have BK729 := n1_; have GW729 := n2_; have GE729 := n3_; clear n0_ n1_ n2_ n3_; clear hb hbox hg) | ((with_reducible refine gate_dst (N := 4) rfl ?_); refine box_event ?hg (N := 4) ?hd (cs := #[.int .i64 a1_0, .int .i64 a1_1]) (t := 26) ?hr ?_; (case hd => rfl); (case hg => rfl); (case hr => first | (go_simp; done) | (go_simp; rfl)); intro gb730 hg w6 hbox hb; have n0_ := Aside0.mk (blk_below (g := gb729) (o := .cells #[.int .i64 a0_0, .int .i64 a0_1, .slice A0_2 l0_2.length c0_2] 24 (0, 0)) zad2 hb); have n1_ := Aside0.mk (below_step zad11 hb); have n2_ := Aside0.mk (hbox); have n3_ := Aside0.mk ((zad55 : w.heap.size ≤ gb730)); have n4_ := Aside0.mk ((zad55 : w.heap.size ≤ gb730)); have n5_ := Aside0.mk ((zad52 : gb729 ≠ gb730)); have n6_ := Aside0.mk ((zad53 : gb730 ≠ gb729)); clear BK729; clear HB; have BK729 := n0_; have HB := n1_; have BK730 := n2_; have GW730 := n3_; have GE730 := n4_; have NB729_730 := n5_; have NB730_729 := n6_; clear n0_ n1_ n2_ n3_ n4_ n5_ n6_; clear hb hbox hg))
  go_ret
  exact ⟨zad17, zad6⟩
 rw [if_neg c4] at H
 have c4b0 : decide (1048576 < (l2.length : Int)) = false := decide_eq_false c4
 have c4b1 : decide (1048576 < l2.length) = false := decide_eq_false (by omega)
 clear c4
 replace H := Option.bind_eq_some_iff.mp H
 obtain ⟨t731, A70, H⟩ := H
 replace H : (if t731 < 0 then (some true) else ((laws_toBoard.f k a0_0 a0_1 l0_2).bind fun bt732 => ((laws_toLeaper.f a1_0 a1_1).bind fun bt737 => ((laws_toIntS.f k l2).bind fun t739 => ((spec_ReverseWalk.f k bt732.1 bt732.2.1 bt732.2.2 bt737.1 bt737.2 t739).bind fun bt742 => ((laws_toBoard.f k a0_0 a0_1 l0_2).bind fun bt746 => ((laws_toIntS.f k l2).bind fun t752 => ((laws_toLeaper.f a1_0 a1_1).bind fun bt755 => ((impl_ReverseWalk.f k bt746.1 bt746.2.1 bt746.2.2 bt755.1 bt755.2 t752).bind fun bt757 => ((laws_eqIntS.f k bt757.1 bt742.1).bind fun t761 => (if t761 = true then (laws_FnExactReverseWalk.j0 k l2 bt742.1 bt742.2 t752 bt757.1 bt757.2 (bt757.2 != bt742.2) a0_0 a0_1 l0_2 a1_0 a1_1 bt746.1 bt746.2.1 bt746.2.2) else (laws_FnExactReverseWalk.j0 k l2 bt742.1 bt742.2 t752 bt757.1 bt757.2 true a0_0 a0_1 l0_2 a1_0 a1_1 bt746.1 bt746.2.1 bt746.2.2)))))))))))) = some r := H
 have A7 := Aside0.mk A70
 clear A70
 by_cases c8 : t731 < 0
 ·rw [if_pos c8] at H
  have c8b0 : decide (t731 < 0) = true := decide_eq_true c8
  clear c8
  obtain rfl := Option.some.inj H
  go_enter Try.func7, Try.ntmps7
  go_wp2_with (first | ((with_reducible refine gate_dst (N := 3) rfl ?_); refine box_event ?hg (N := 3) ?hd (cs := #[.int .i64 a0_0, .int .i64 a0_1, .slice A0_2 l0_2.length c0_2]) (t := 24) ?hr ?_; (case hd => rfl); (case hg => rfl); (case hr => first | (go_simp; done) | (go_simp; rfl)); intro gb729 hg w9 hbox hb; have n0_ := Aside0.mk (below_step zad15 hb); have n1_ := Aside0.mk (hbox); have n2_ := Aside0.mk ((zad54 : w.heap.size ≤ gb729)); have n3_ := Aside0.mk ((zad54 : w.heap.size ≤ gb729)); clear HB; have HB := n0_; have BK729 := n1_; have GW729 := n2_; have GE729 := n3_; clear n0_ n1_ n2_ n3_; clear hb hbox hg) | ((with_reducible refine gate_dst (N := 4) rfl ?_); refine box_event ?hg (N := 4) ?hd (cs := #[.int .i64 a1_0, .int .i64 a1_1]) (t := 26) ?hr ?_; (case hd => rfl); (case hg => rfl); (case hr => first | (go_simp; done) | (go_simp; rfl)); intro gb730 hg w10 hbox hb; have n0_ := Aside0.mk (blk_below (g := gb729) (o := .cells #[.int .i64 a0_0, .int .i64 a0_1, .slice A0_2 l0_2.length c0_2] 24 (0, 0)) zad2 hb); have n1_ := Aside0.mk (below_step zad11 hb); have n2_ := Aside0.mk (hbox); have n3_ := Aside0.mk ((zad55 : w.heap.size ≤ gb730)); have n4_ := Aside0.mk ((zad55 : w.heap.size ≤ gb730)); have n5_ := Aside0.mk ((zad52 : gb729 ≠ gb730)); have n6_ := Aside0.mk ((zad53 : gb730 ≠ gb729)); clear BK729; clear HB; have BK729 := n0_; have HB := n1_; have BK730 := n2_; have GW730 := n3_; have GE730 := n4_; have NB729_730 := n5_; have NB730_729 := n6_; clear n0_ n1_ n2_ n3_ n4_ n5_ n6_; clear hb hbox hg; have hnb11 := NB729_730.out; have hnc11 := NB730_729.out; have hcz12_0 : w10.cell? ⟨gb729, 0, none⟩ = some (.int .i64 a0_0) := (blk_cell BK729.out 0).trans rfl; have hcz12_1 : w10.cell? ⟨gb729, 1, none⟩ = some (.int .i64 a0_1) := (blk_cell BK729.out 1).trans rfl; have hcz12_2 : w10.cell? ⟨gb729, 2, none⟩ = some (.slice A0_2 l0_2.length c0_2) := (blk_cell BK729.out 2).trans rfl; have hfz12_0 := blk_frozen BK729.out 0; have hfz12_1 := blk_frozen BK729.out 1; have hfz12_2 := blk_frozen BK729.out 2) | ((with_reducible refine gate_callee (f := 15) rfl ?_); refine goesL_ (some 24) rfl rfl Try.func15 (by kernel_rfl) rfl #[.agg #[.int .i64 a0_0, .int .i64 a0_1, .slice A0_2 l0_2.length c0_2], .int .i64 1048576] rfl zad3 ?_; (with_reducible refine (laws_szBoard.calls a0_0 a0_1 _ _ l0_2 1048576 t731 _ ?side1 ?side2 A7.out).mono ?_); (case side1 => exact zad13); (case side2 => exact HC0_2.out); rintro e w13 ⟨rfl, hb⟩; refine ⟨_, rfl, ?_⟩; have n0_ := Aside0.mk (blk_below (g := gb729) (o := .cells #[.int .i64 a0_0, .int .i64 a0_1, .slice A0_2 l0_2.length c0_2] 24 (0, 0)) zad2 hb); have n1_ := Aside0.mk (blk_below (g := gb730) (o := .cells #[.int .i64 a1_0, .int .i64 a1_1] 26 (0, 0)) zad4 hb); have n2_ := Aside0.mk (below_step zad6 hb); clear BK729; clear BK730; clear HB; have BK729 := n0_; have BK730 := n1_; have HB := n2_; clear n0_ n1_ n2_; (try clear hb); (try clear hb2); (try clear hk); (try clear hi); (try clear hna_); (try clear hnb_)))
  go_ret
  exact ⟨zad17, zad6⟩
 rw [if_neg c8] at H
 have c8b0 : decide (t731 < 0) = false := decide_eq_false c8
 clear c8
 replace H := Option.bind_eq_some_iff.mp H
 obtain ⟨⟨t732, t733, t734⟩, A140, H⟩ := H
 replace H : ((laws_toLeaper.f a1_0 a1_1).bind fun bt737 => ((laws_toIntS.f k l2).bind fun t739 => ((spec_ReverseWalk.f k t732 t733 t734 bt737.1 bt737.2 t739).bind fun bt742 => ((laws_toBoard.f k a0_0 a0_1 l0_2).bind fun bt746 => ((laws_toIntS.f k l2).bind fun t752 => ((laws_toLeaper.f a1_0 a1_1).bind fun bt755 => ((impl_ReverseWalk.f k bt746.1 bt746.2.1 bt746.2.2 bt755.1 bt755.2 t752).bind fun bt757 => ((laws_eqIntS.f k bt757.1 bt742.1).bind fun t761 => (if t761 = true then (laws_FnExactReverseWalk.j0 k l2 bt742.1 bt742.2 t752 bt757.1 bt757.2 (bt757.2 != bt742.2) a0_0 a0_1 l0_2 a1_0 a1_1 bt746.1 bt746.2.1 bt746.2.2) else (laws_FnExactReverseWalk.j0 k l2 bt742.1 bt742.2 t752 bt757.1 bt757.2 true a0_0 a0_1 l0_2 a1_0 a1_1 bt746.1 bt746.2.1 bt746.2.2)))))))))) = some r := H
 have A14 := Aside0.mk A140
 clear A140
 replace H := Option.bind_eq_some_iff.mp H
 obtain ⟨⟨t737, t738⟩, A150, H⟩ := H
 replace H : ((laws_toIntS.f k l2).bind fun t739 => ((spec_ReverseWalk.f k t732 t733 t734 t737 t738 t739).bind fun bt742 => ((laws_toBoard.f k a0_0 a0_1 l0_2).bind fun bt746 => ((laws_toIntS.f k l2).bind fun t752 => ((laws_toLeaper.f a1_0 a1_1).bind fun bt755 => ((impl_ReverseWalk.f k bt746.1 bt746.2.1 bt746.2.2 bt755.1 bt755.2 t752).bind fun bt757 => ((laws_eqIntS.f k bt757.1 bt742.1).bind fun t761 => (if t761 = true then (laws_FnExactReverseWalk.j0 k l2 bt742.1 bt742.2 t752 bt757.1 bt757.2 (bt757.2 != bt742.2) a0_0 a0_1 l0_2 a1_0 a1_1 bt746.1 bt746.2.1 bt746.2.2) else (laws_FnExactReverseWalk.j0 k l2 bt742.1 bt742.2 t752 bt757.1 bt757.2 true a0_0 a0_1 l0_2 a1_0 a1_1 bt746.1 bt746.2.1 bt746.2.2))))))))) = some r := H
 have A15 := Aside0.mk A150
 clear A150
 replace H := Option.bind_eq_some_iff.mp H
 obtain ⟨t739, A160, H⟩ := H
 replace H : ((spec_ReverseWalk.f k t732 t733 t734 t737 t738 t739).bind fun bt742 => ((laws_toBoard.f k a0_0 a0_1 l0_2).bind fun bt746 => ((laws_toIntS.f k l2).bind fun t752 => ((laws_toLeaper.f a1_0 a1_1).bind fun bt755 => ((impl_ReverseWalk.f k bt746.1 bt746.2.1 bt746.2.2 bt755.1 bt755.2 t752).bind fun bt757 => ((laws_eqIntS.f k bt757.1 bt742.1).bind fun t761 => (if t761 = true then (laws_FnExactReverseWalk.j0 k l2 bt742.1 bt742.2 t752 bt757.1 bt757.2 (bt757.2 != bt742.2) a0_0 a0_1 l0_2 a1_0 a1_1 bt746.1 bt746.2.1 bt746.2.2) else (laws_FnExactReverseWalk.j0 k l2 bt742.1 bt742.2 t752 bt757.1 bt757.2 true a0_0 a0_1 l0_2 a1_0 a1_1 bt746.1 bt746.2.1 bt746.2.2)))))))) = some r := H
 have A16 := Aside0.mk A160
 clear A160
 replace H := Option.bind_eq_some_iff.mp H
 obtain ⟨⟨t742, t745⟩, A170, H⟩ := H
 replace H : ((laws_toBoard.f k a0_0 a0_1 l0_2).bind fun bt746 => ((laws_toIntS.f k l2).bind fun t752 => ((laws_toLeaper.f a1_0 a1_1).bind fun bt755 => ((impl_ReverseWalk.f k bt746.1 bt746.2.1 bt746.2.2 bt755.1 bt755.2 t752).bind fun bt757 => ((laws_eqIntS.f k bt757.1 t742).bind fun t761 => (if t761 = true then (laws_FnExactReverseWalk.j0 k l2 t742 t745 t752 bt757.1 bt757.2 (bt757.2 != t745) a0_0 a0_1 l0_2 a1_0 a1_1 bt746.1 bt746.2.1 bt746.2.2) else (laws_FnExactReverseWalk.j0 k l2 t742 t745 t752 bt757.1 bt757.2 true a0_0 a0_1 l0_2 a1_0 a1_1 bt746.1 bt746.2.1 bt746.2.2))))))) = some r := H
 have A17 := Aside0.mk A170
 clear A170
 replace H := Option.bind_eq_some_iff.mp H
 obtain ⟨⟨t746, t747, t748⟩, A180, H⟩ := H
 replace H : ((laws_toIntS.f k l2).bind fun t752 => ((laws_toLeaper.f a1_0 a1_1).bind fun bt755 => ((impl_ReverseWalk.f k t746 t747 t748 bt755.1 bt755.2 t752).bind fun bt757 => ((laws_eqIntS.f k bt757.1 t742).bind fun t761 => (if t761 = true then (laws_FnExactReverseWalk.j0 k l2 t742 t745 t752 bt757.1 bt757.2 (bt757.2 != t745) a0_0 a0_1 l0_2 a1_0 a1_1 t746 t747 t748) else (laws_FnExactReverseWalk.j0 k l2 t742 t745 t752 bt757.1 bt757.2 true a0_0 a0_1 l0_2 a1_0 a1_1 t746 t747 t748)))))) = some r := H
 have A18 := Aside0.mk A180
 clear A180
 replace H := Option.bind_eq_some_iff.mp H
 obtain ⟨t752, A190, H⟩ := H
 replace H : ((laws_toLeaper.f a1_0 a1_1).bind fun bt755 => ((impl_ReverseWalk.f k t746 t747 t748 bt755.1 bt755.2 t752).bind fun bt757 => ((laws_eqIntS.f k bt757.1 t742).bind fun t761 => (if t761 = true then (laws_FnExactReverseWalk.j0 k l2 t742 t745 t752 bt757.1 bt757.2 (bt757.2 != t745) a0_0 a0_1 l0_2 a1_0 a1_1 t746 t747 t748) else (laws_FnExactReverseWalk.j0 k l2 t742 t745 t752 bt757.1 bt757.2 true a0_0 a0_1 l0_2 a1_0 a1_1 t746 t747 t748))))) = some r := H
 have A19 := Aside0.mk A190
 clear A190
 replace H := Option.bind_eq_some_iff.mp H
 obtain ⟨⟨t755, t756⟩, A200, H⟩ := H
 replace H : ((impl_ReverseWalk.f k t746 t747 t748 t755 t756 t752).bind fun bt757 => ((laws_eqIntS.f k bt757.1 t742).bind fun t761 => (if t761 = true then (laws_FnExactReverseWalk.j0 k l2 t742 t745 t752 bt757.1 bt757.2 (bt757.2 != t745) a0_0 a0_1 l0_2 a1_0 a1_1 t746 t747 t748) else (laws_FnExactReverseWalk.j0 k l2 t742 t745 t752 bt757.1 bt757.2 true a0_0 a0_1 l0_2 a1_0 a1_1 t746 t747 t748)))) = some r := H
 have A20 := Aside0.mk A200
 clear A200
 replace H := Option.bind_eq_some_iff.mp H
 obtain ⟨⟨t757, t760⟩, A210, H⟩ := H
 replace H : ((laws_eqIntS.f k t757 t742).bind fun t761 => (if t761 = true then (laws_FnExactReverseWalk.j0 k l2 t742 t745 t752 t757 t760 (t760 != t745) a0_0 a0_1 l0_2 a1_0 a1_1 t746 t747 t748) else (laws_FnExactReverseWalk.j0 k l2 t742 t745 t752 t757 t760 true a0_0 a0_1 l0_2 a1_0 a1_1 t746 t747 t748))) = some r := H
 have A21 := Aside0.mk A210
 clear A210
 have HC22 := Aside0.mk H
 clear H
 go_enter Try.func7, Try.ntmps7
 try go_wp2_with (first | ((with_reducible refine gate_dst (N := 3) rfl ?_); refine box_event ?hg (N := 3) ?hd (cs := #[.int .i64 a0_0, .int .i64 a0_1, .slice A0_2 l0_2.length c0_2]) (t := 24) ?hr ?_; (case hd => rfl); (case hg => rfl); (case hr => first | (go_simp; done) | (go_simp; rfl)); intro gb729 hg w23 hbox hb; have n0_ := Aside0.mk (below_step zad15 hb); have n1_ := Aside0.mk (hbox); have n2_ := Aside0.mk ((zad54 : w.heap.size ≤ gb729)); have n3_ := Aside0.mk ((zad54 : w.heap.size ≤ gb729)); clear HB; have HB := n0_; have BK729 := n1_; have GW729 := n2_; have GE729 := n3_; clear n0_ n1_ n2_ n3_; clear hb hbox hg) | ((with_reducible refine gate_dst (N := 4) rfl ?_); refine box_event ?hg (N := 4) ?hd (cs := #[.int .i64 a1_0, .int .i64 a1_1]) (t := 26) ?hr ?_; (case hd => rfl); (case hg => rfl); (case hr => first | (go_simp; done) | (go_simp; rfl)); intro gb730 hg w24 hbox hb; have n0_ := Aside0.mk (blk_below (g := gb729) (o := .cells #[.int .i64 a0_0, .int .i64 a0_1, .slice A0_2 l0_2.length c0_2] 24 (0, 0)) zad2 hb); have n1_ := Aside0.mk (below_step zad11 hb); have n2_ := Aside0.mk (hbox); have n3_ := Aside0.mk ((zad55 : w.heap.size ≤ gb730)); have n4_ := Aside0.mk ((zad55 : w.heap.size ≤ gb730)); have n5_ := Aside0.mk ((zad52 : gb729 ≠ gb730)); have n6_ := Aside0.mk ((zad53 : gb730 ≠ gb729)); clear BK729; clear HB; have BK729 := n0_; have HB := n1_; have BK730 := n2_; have GW730 := n3_; have GE730 := n4_; have NB729_730 := n5_; have NB730_729 := n6_; clear n0_ n1_ n2_ n3_ n4_ n5_ n6_; clear hb hbox hg; have hnb25 := NB729_730.out; have hnc25 := NB730_729.out; have hcz26_0 : w24.cell? ⟨gb729, 0, none⟩ = some (.int .i64 a0_0) := (blk_cell BK729.out 0).trans rfl; have hcz26_1 : w24.cell? ⟨gb729, 1, none⟩ = some (.int .i64 a0_1) := (blk_cell BK729.out 1).trans rfl; have hcz26_2 : w24.cell? ⟨gb729, 2, none⟩ = some (.slice A0_2 l0_2.length c0_2) := (blk_cell BK729.out 2).trans rfl; have hfz26_0 := blk_frozen BK729.out 0; have hfz26_1 := blk_frozen BK729.out 1; have hfz26_2 := blk_frozen BK729.out 2) | ((with_reducible refine gate_callee (f := 15) rfl ?_); refine goesL_ (some 24) rfl rfl Try.func15 (by kernel_rfl) rfl #[.agg #[.int .i64 a0_0, .int .i64 a0_1, .slice A0_2 l0_2.length c0_2], .int .i64 1048576] rfl zad3 ?_; (with_reducible refine (laws_szBoard.calls a0_0 a0_1 _ _ l0_2 1048576 t731 _ ?side1 ?side2 A7.out).mono ?_); (case side1 => exact zad13); (case side2 => exact HC0_2.out); rintro e w27 ⟨rfl, hb⟩; refine ⟨_, rfl, ?_⟩; have n0_ := Aside0.mk (blk_below (g := gb729) (o := .cells #[.int .i64 a0_0, .int .i64 a0_1, .slice A0_2 l0_2.length c0_2] 24 (0, 0)) zad2 hb); have n1_ := Aside0.mk (blk_below (g := gb730) (o := .cells #[.int .i64 a1_0, .int .i64 a1_1] 26 (0, 0)) zad4 hb); have n2_ := Aside0.mk (below_step zad6 hb); clear BK729; clear BK730; clear HB; have BK729 := n0_; have BK730 := n1_; have HB := n2_; clear n0_ n1_ n2_; (try clear hb); (try clear hb2); (try clear hk); (try clear hi); (try clear hna_); (try clear hnb_)))
 have n0_ := Aside0.mk (blk_drew BK729.out)
 have n1_ := Aside0.mk (blk_drew BK730.out)
 have n2_ := Aside0.mk (below_drew1 HB.out)
 clear BK729
 clear BK730
 clear HB
 have BK729 := n0_
 have BK730 := n1_
 have HB := n2_
 clear n0_ n1_ n2_
 refine start_ (n := 12) (S := fun w' => w'.cell? ⟨gb729, 0, none⟩ = some (.int .i64 a0_0) ∧ w'.cell? ⟨gb729, 1, none⟩ = some (.int .i64 a0_1) ∧ w'.cell? ⟨gb729, 2, none⟩ = some (.slice A0_2 l0_2.length c0_2) ∧ w'.cell? ⟨gb730, 0, none⟩ = some (.int .i64 a1_0) ∧ w'.cell? ⟨gb730, 1, none⟩ = some (.int .i64 a1_1)) (ds := []) #[false, false, false, false, false, false, false, false, false, false, false, false] (by kernel_rfl) rfl rfl ⟨(blk_cell BK729.out 0).trans rfl, (blk_cell BK729.out 1).trans rfl, (blk_cell BK729.out 2).trans rfl, (blk_cell BK730.out 0).trans rfl, (blk_cell BK730.out 1).trans rfl⟩ (fun hHeld => ?_); refine with_tabW laws_FnExactReverseWalk.tab7 laws_FnExactReverseWalk.bits7 (fun HT_ HW_ => ?_)
 generalize w27.drew = w28 at BK729 BK730 HB hHeld ⊢
 refine pure_ (i := 4) (N := some 32) (v := ?_) (a' := ?_) #[false, false, false, false, true, false, false, false, false, false, false, false] rfl rfl (any_of HT_.out (by kernel_rfl)) (fun _ _ _ h => h) (Or.inl ⟨by rfl, ?_⟩) ?_ ?_
 rotate_left
 ·intro w'
  go_simp
  with_reducible rfl
 rotate_left
 ·simp only [Act.put, List.setIfInBounds_toArray, List.set_cons_zero, List.set_cons_succ, i64_w, i32_w]
  rfl
 refine take_ (i := 0) (N := some 28) (v := ?_) (a' := ?_) #[true, false, false, false, true, false, false, false, false, false, false, false] rfl rfl (take_ofW HT_.out HW_.out (by kernel_rfl)) (fun _ _ _ h => h) (Or.inl ⟨by rfl, ?_⟩) hHeld ?_ ?_
 rotate_left
 ·rintro w' ⟨s0, s1, s2, s3, s4⟩
  go_simp
  with_reducible rfl
 rotate_left
 ·simp only [Act.put, List.setIfInBounds_toArray, List.set_cons_zero, List.set_cons_succ, i64_w, i32_w]
  rfl
 refine take_ (i := 2) (N := some 30) (v := ?_) (a' := ?_) #[true, false, true, false, true, false, false, false, false, false, false, false] rfl rfl (take_ofW HT_.out HW_.out (by kernel_rfl)) (fun _ _ _ h => h) (Or.inl ⟨by rfl, ?_⟩) hHeld ?_ ?_
 rotate_left
 ·rintro w' ⟨s0, s1, s2, s3, s4⟩
  go_simp
  with_reducible rfl
 rotate_left
 ·simp only [Act.put, List.setIfInBounds_toArray, List.set_cons_zero, List.set_cons_succ, i64_w, i32_w]
  rfl
 refine one_ (i := 1) (N := some 29) #[true, true, true, false, true, false, false, false, false, false, false, false] rfl rfl (one_of HT_.out (by kernel_rfl)) (by decide) (fun K hK => ?_)
 refine goes_ Try.func17 (by kernel_rfl) rfl #[.agg #[.int .i64 a0_0, .int .i64 a0_1, .slice A0_2 l0_2.length c0_2]] (by rfl) rfl rfl zad3 ?_
 with_reducible refine (laws_toBoard.calls k a0_0 a0_1 _ _ l0_2 t732 t733 t734 _ ?side1 ?side2 A14.out).mono ?_
 (case side1 => exact zad13)
 (case side2 => exact HC0_2.out)
 rintro e w29 ⟨v735, rfl, ho0, hb⟩
 refine ⟨_, rfl, ?_⟩
 have n0_ := Aside0.mk (Kd.R_lower ho0 (below_size zad6))
 have n1_ := Aside0.mk (blk_below (g := gb729) (o := .cells #[.int .i64 a0_0, .int .i64 a0_1, .slice A0_2 l0_2.length c0_2] 24 (0, 0)) zad2 hb)
 have n2_ := Aside0.mk (blk_below (g := gb730) (o := .cells #[.int .i64 a1_0, .int .i64 a1_1] 26 (0, 0)) zad4 hb)
 have n3_ := Aside0.mk (below_step zad6 hb)
 clear BK729
 clear BK730
 clear HB
 have HO736 := n0_
 have BK729 := n1_
 have BK730 := n2_
 have HB := n3_
 clear n0_ n1_ n2_ n3_
 (try clear hb)
 (try clear hb2)
 (try clear hk)
 (try clear hi)
 (try clear ho0)
 (try clear hna_)
 (try clear hnb_)
 refine hK.out _ _ ⟨(blk_cell BK729.out 0).trans rfl, (blk_cell BK729.out 1).trans rfl, (blk_cell BK729.out 2).trans rfl, (blk_cell BK730.out 0).trans rfl, (blk_cell BK730.out 1).trans rfl⟩ (fun hHeld => ?_)
 clear hK K
 refine norm_ (a' := ?_) ?_ ?_
 rotate_left
 ·show Act.put _ (some 29) _ = _
  simp only [Act.put, List.setIfInBounds_toArray, List.set_cons_zero, List.set_cons_succ, i64_w, i32_w]
  rfl
 refine one_ (i := 3) (N := some 31) #[true, true, true, true, true, false, false, false, false, false, false, false] rfl rfl (one_of HT_.out (by kernel_rfl)) (by decide) (fun K hK => ?_)
 refine goes_ Try.func18 (by kernel_rfl) rfl #[.agg #[.int .i64 a1_0, .int .i64 a1_1]] (by rfl) rfl rfl zad3 ?_
 with_reducible refine (laws_toLeaper.calls a1_0 a1_1 t737 t738 _ A15.out).mono ?_
 rintro e w30 ⟨rfl, hb⟩
 refine ⟨_, rfl, ?_⟩
 have n0_ := Aside0.mk (Kd.R_below zad16 hb)
 have n1_ := Aside0.mk (blk_below (g := gb729) (o := .cells #[.int .i64 a0_0, .int .i64 a0_1, .slice A0_2 l0_2.length c0_2] 24 (0, 0)) zad2 hb)
 have n2_ := Aside0.mk (blk_below (g := gb730) (o := .cells #[.int .i64 a1_0, .int .i64 a1_1] 26 (0, 0)) zad4 hb)
 have n3_ := Aside0.mk (below_step zad6 hb)
 clear HO736
 clear BK729
 clear BK730
 clear HB
 have HO736 := n0_
 have BK729 := n1_
 have BK730 := n2_
 have HB := n3_
 clear n0_ n1_ n2_ n3_
 (try clear hb)
 (try clear hb2)
 (try clear hk)
 (try clear hi)
 (try clear hna_)
 (try clear hnb_)
 refine hK.out _ _ ⟨(blk_cell BK729.out 0).trans rfl, (blk_cell BK729.out 1).trans rfl, (blk_cell BK729.out 2).trans rfl, (blk_cell BK730.out 0).trans rfl, (blk_cell BK730.out 1).trans rfl⟩ (fun hHeld => ?_)
 clear hK K
 refine norm_ (a' := ?_) ?_ ?_
 rotate_left
 ·show Act.put _ (some 31) _ = _
  simp only [Act.put, List.setIfInBounds_toArray, List.set_cons_zero, List.set_cons_succ, i64_w, i32_w]
  rfl
 refine one_ (i := 5) (N := some 33) #[true, true, true, true, true, true, false, false, false, false, false, false] rfl rfl (one_of HT_.out (by kernel_rfl)) (by decide) (fun K hK => ?_)
 refine goes_ Try.func19 (by kernel_rfl) rfl #[.slice A2 l2.length c2] (by rfl) rfl rfl zad3 ?_
 with_reducible refine (laws_toIntS.calls k _ _ l2 t739 _ ?side1 ?side2 A16.out).mono ?_
 (case side1 => exact zad21)
 (case side2 => exact HC2.out)
 rintro e w31 ⟨v740, rfl, ho0, hb⟩
 refine ⟨_, rfl, ?_⟩
 have n0_ := Aside0.mk (Kd.R_elder' zad16 (Kd.R_base ho0) hb)
 have n1_ := Aside0.mk (Kd.R_lower (Kd.R_new' ho0 (Kd.R_lt zad16)) (below_size zad6))
 have n2_ := Aside0.mk (blk_below (g := gb729) (o := .cells #[.int .i64 a0_0, .int .i64 a0_1, .slice A0_2 l0_2.length c0_2] 24 (0, 0)) zad2 hb)
 have n3_ := Aside0.mk (blk_below (g := gb730) (o := .cells #[.int .i64 a1_0, .int .i64 a1_1] 26 (0, 0)) zad4 hb)
 have n4_ := Aside0.mk (below_step zad6 hb)
 clear HO736
 clear BK729
 clear BK730
 clear HB
 have HO736 := n0_
 have HO741 := n1_
 have BK729 := n2_
 have BK730 := n3_
 have HB := n4_
 clear n0_ n1_ n2_ n3_ n4_
 (try clear hb)
 (try clear hb2)
 (try clear hk)
 (try clear hi)
 (try clear ho0)
 (try clear hna_)
 (try clear hnb_)
 obtain ⟨Ao32, co32, eo32⟩ := Kd.R_slice HO736.out
 (first | subst eo32 | (injection eo32 with f1_ f2_ f3_; have f4_ := f1_.symm; have f5_ := f3_.symm; clear f1_ f2_ f3_; subst f4_; subst f5_))
 obtain ⟨Ao33, co33, eo33⟩ := Kd.R_slice HO741.out
 (first | subst eo33 | (injection eo33 with f1_ f2_ f3_; have f4_ := f1_.symm; have f5_ := f3_.symm; clear f1_ f2_ f3_; subst f4_; subst f5_))
 refine hK.out _ _ ⟨(blk_cell BK729.out 0).trans rfl, (blk_cell BK729.out 1).trans rfl, (blk_cell BK729.out 2).trans rfl, (blk_cell BK730.out 0).trans rfl, (blk_cell BK730.out 1).trans rfl⟩ (fun hHeld => ?_)
 clear hK K
 refine norm_ (a' := ?_) ?_ ?_
 rotate_left
 ·show Act.put _ (some 33) _ = _
  simp only [Act.put, List.setIfInBounds_toArray, List.set_cons_zero, List.set_cons_succ, i64_w, i32_w]
  rfl
 refine one_ (i := 6) (N := some 34) #[true, true, true, true, true, true, true, false, false, false, false, false] rfl rfl (one_of HT_.out (by kernel_rfl)) (by decide) (fun K hK => ?_)
 refine goes_ Try.func32 (by kernel_rfl) rfl #[.agg #[.int .i64 t732, .int .i64 t733, .slice Ao32 t734.length co32], .agg #[.int .i64 t737, .int .i64 t738], .slice Ao33 t739.length co33] (by rfl) rfl rfl zad3 ?_
 with_reducible refine (spec_ReverseWalk.calls k t732 t733 _ _ t734 t737 t738 _ _ t739 t742 t745 _ ?side1 ?side2 ?side3 ?side4 A17.out).mono ?_
 (case side1 => repeat (first | exact (Kd.R_reads' HO736.out).2.2 | (with_reducible refine Kd.C_alloc ?_ _) | (with_reducible refine Kd.C_drewN ?_ _) | (with_reducible refine Kd.C_drew ?_)))
 (case side2 => exact (Kd.R_reads' HO736.out).2.1)
 (case side3 => repeat (first | exact (Kd.R_reads' HO741.out).2.2 | (with_reducible refine Kd.C_alloc ?_ _) | (with_reducible refine Kd.C_drewN ?_ _) | (with_reducible refine Kd.C_drew ?_)))
 (case side4 => exact (Kd.R_reads' HO741.out).2.1)
 rintro e w34 ⟨v743, rfl, ho0, hb⟩
 refine ⟨_, rfl, ?_⟩
 have n0_ := Aside0.mk (Kd.R_elder' zad16 (Kd.R_base ho0) hb)
 have n1_ := Aside0.mk (Kd.R_elder' zad18 (Kd.R_base ho0) hb)
 have n2_ := Aside0.mk (Kd.R_lower (Kd.R_new' (Kd.R_new' ho0 (Kd.R_lt zad16)) (Kd.R_lt zad18)) (below_size zad6))
 have n3_ := Aside0.mk (blk_below (g := gb729) (o := .cells #[.int .i64 a0_0, .int .i64 a0_1, .slice A0_2 l0_2.length c0_2] 24 (0, 0)) zad2 hb)
 have n4_ := Aside0.mk (blk_below (g := gb730) (o := .cells #[.int .i64 a1_0, .int .i64 a1_1] 26 (0, 0)) zad4 hb)
 have n5_ := Aside0.mk (below_step zad6 hb)
 clear HO736
 clear HO741
 clear BK729
 clear BK730
 clear HB
 have HO736 := n0_
 have HO741 := n1_
 have HO744 := n2_
 have BK729 := n3_
 have BK730 := n4_
 have HB := n5_
 clear n0_ n1_ n2_ n3_ n4_ n5_
 (try clear hb)
 (try clear hb2)
 (try clear hk)
 (try clear hi)
 (try clear ho0)
 (try clear hna_)
 (try clear hnb_)
 refine hK.out _ _ ⟨(blk_cell BK729.out 0).trans rfl, (blk_cell BK729.out 1).trans rfl, (blk_cell BK729.out 2).trans rfl, (blk_cell BK730.out 0).trans rfl, (blk_cell BK730.out 1).trans rfl⟩ (fun hHeld => ?_)
 clear hK K
 refine norm_ (a' := ?_) ?_ ?_
 rotate_left
 ·show Act.put _ (some 34) _ = _
  simp only [Act.put, List.setIfInBounds_toArray, List.set_cons_zero, List.set_cons_succ, i64_w, i32_w]
  rfl
 refine pure_ (i := 7) (N := some 27) (v := ?_) (a' := ?_) #[true, true, true, true, true, true, true, true, false, false, false, false] rfl rfl (any_of HT_.out (by kernel_rfl)) (fun _ _ _ h => h) (Or.inl ⟨by rfl, ?_⟩) ?_ ?_
 rotate_left
 ·intro w'
  go_simp
  with_reducible rfl
 rotate_left
 ·simp only [Act.put, List.setIfInBounds_toArray, List.set_cons_zero, List.set_cons_succ, i64_w, i32_w]
  rfl
 refine pure_ (i := 8) (N := some 35) (v := ?_) (a' := ?_) #[true, true, true, true, true, true, true, true, true, false, false, false] rfl rfl (any_of HT_.out (by kernel_rfl)) (fun _ _ _ h => h) (Or.inl ⟨by rfl, ?_⟩) ?_ ?_
 rotate_left
 ·intro w'
  go_simp
  with_reducible rfl
 rotate_left
 ·simp only [Act.put, List.setIfInBounds_toArray, List.set_cons_zero, List.set_cons_succ, i64_w, i32_w]
  rfl
 refine pure_ (i := 9) (N := some 36) (v := ?_) (a' := ?_) #[true, true, true, true, true, true, true, true, true, true, false, false] rfl rfl (any_of HT_.out (by kernel_rfl)) (fun _ _ _ h => h) (Or.inl ⟨by rfl, ?_⟩) ?_ ?_
 rotate_left
 ·intro w'
  go_simp
  with_reducible rfl
 rotate_left
 ·simp only [Act.put, List.setIfInBounds_toArray, List.set_cons_zero, List.set_cons_succ, i64_w, i32_w]
  rfl
 refine pure_ (i := 10) (N := some 8) (v := ?_) (a' := ?_) #[true, true, true, true, true, true, true, true, true, true, true, false] rfl rfl (any_of HT_.out (by kernel_rfl)) (fun _ _ _ h => h) (Or.inl ⟨by rfl, ?_⟩) ?_ ?_
 rotate_left
 ·intro w'
  go_simp
  with_reducible rfl
 rotate_left
 ·simp only [Act.put, List.setIfInBounds_toArray, List.set_cons_zero, List.set_cons_succ, i64_w, i32_w]
  rfl
 refine pure_ (i := 11) (N := some 9) (v := ?_) (a' := ?_) #[true, true, true, true, true, true, true, true, true, true, true, true] rfl rfl (any_of HT_.out (by kernel_rfl)) (fun _ _ _ h => h) (Or.inl ⟨by rfl, ?_⟩) ?_ ?_
 rotate_left
 ·intro w'
  go_simp
  with_reducible rfl
 rotate_left
 ·simp only [Act.put, List.setIfInBounds_toArray, List.set_cons_zero, List.set_cons_succ, i64_w, i32_w]
  rfl
 refine done_ (done_of HT_.out (by kernel_rfl)) ?_
 have hcz35_0 : w34.cell? ⟨gb729, 0, none⟩ = some (.int .i64 a0_0) := (blk_cell BK729.out 0).trans rfl
 have hcz35_1 : w34.cell? ⟨gb729, 1, none⟩ = some (.int .i64 a0_1) := (blk_cell BK729.out 1).trans rfl
 have hcz35_2 : w34.cell? ⟨gb729, 2, none⟩ = some (.slice A0_2 l0_2.length c0_2) := (blk_cell BK729.out 2).trans rfl
 have hfz35_0 := blk_frozen BK729.out 0
 have hfz35_1 := blk_frozen BK729.out 1
 have hfz35_2 := blk_frozen BK729.out 2
 try go_wp2_with (first | ((with_reducible refine gate_callee (f := 17) rfl ?_); refine goesL_ (some 38) rfl rfl Try.func17 (by kernel_rfl) rfl #[.agg #[.int .i64 a0_0, .int .i64 a0_1, .slice A0_2 l0_2.length c0_2]] rfl zad3 ?_; (with_reducible refine (laws_toBoard.calls k a0_0 a0_1 _ _ l0_2 t746 t747 t748 _ ?side1 ?side2 A18.out).mono ?_); (case side1 => exact zad13); (case side2 => exact HC0_2.out); rintro e w36 ⟨v749, rfl, ho0, hb⟩; refine ⟨_, rfl, ?_⟩; have n0_ := Aside0.mk (Kd.R_elder' zad16 (Kd.R_base ho0) hb); have n1_ := Aside0.mk (Kd.R_elder' zad18 (Kd.R_base ho0) hb); have n2_ := Aside0.mk (Kd.R_elder' zad20 (Kd.R_base ho0) hb); have n3_ := Aside0.mk (Kd.R_lower (Kd.R_new' (Kd.R_new' (Kd.R_new' ho0 (Kd.R_lt zad16)) (Kd.R_lt zad18)) (Kd.R_lt zad20)) (below_size zad6)); have n4_ := Aside0.mk (blk_below (g := gb729) (o := .cells #[.int .i64 a0_0, .int .i64 a0_1, .slice A0_2 l0_2.length c0_2] 24 (0, 0)) zad2 hb); have n5_ := Aside0.mk (blk_below (g := gb730) (o := .cells #[.int .i64 a1_0, .int .i64 a1_1] 26 (0, 0)) zad4 hb); have n6_ := Aside0.mk (below_step zad6 hb); clear HO736; clear HO741; clear HO744; clear BK729; clear BK730; clear HB; have HO736 := n0_; have HO741 := n1_; have HO744 := n2_; have HO750 := n3_; have BK729 := n4_; have BK730 := n5_; have HB := n6_; clear n0_ n1_ n2_ n3_ n4_ n5_ n6_; (try clear hb); (try clear hb2); (try clear hk); (try clear hi); (try clear ho0); (try clear hna_); (try clear hnb_)) | ((with_reducible refine gate_dst (N := 10) rfl ?_); refine box_event ?hg (N := 10) ?hd (cs := #[.int .i64 0, .int .i64 0, .slice none 0 0]) (t := 30) ?hr ?_; (case hd => rfl); (case hg => rfl); (case hr => first | (go_simp; done) | (go_simp; rfl)); intro gb751 hg w37 hbox hb; have n0_ := Aside0.mk (Kd.R_below zad16 hb); have n1_ := Aside0.mk (Kd.R_below zad18 hb); have n2_ := Aside0.mk (Kd.R_below zad20 hb); have n3_ := Aside0.mk (Kd.R_below zad31 hb); have n4_ := Aside0.mk (blk_below (g := gb729) (o := .cells #[.int .i64 a0_0, .int .i64 a0_1, .slice A0_2 l0_2.length c0_2] 24 (0, 0)) zad2 hb); have n5_ := Aside0.mk (blk_below (g := gb730) (o := .cells #[.int .i64 a1_0, .int .i64 a1_1] 26 (0, 0)) zad4 hb); have n6_ := Aside0.mk (below_step zad6 hb); have n7_ := Aside0.mk (hbox); have n8_ := Aside0.mk ((by rw [hg]; exact (below_size zad6) : w.heap.size ≤ gb751)); have n9_ := Aside0.mk ((by rw [hg]; exact (below_size zad6) : w.heap.size ≤ gb751)); have n10_ := Aside0.mk ((zad52 : gb729 ≠ gb751)); have n11_ := Aside0.mk ((zad53 : gb751 ≠ gb729)); have n12_ := Aside0.mk ((by rw [hg]; exact Nat.ne_of_lt (blk_lt (g := gb730) (o := .cells #[.int .i64 a1_0, .int .i64 a1_1] 26 (0, 0)) zad4) : gb730 ≠ gb751)); have n13_ := Aside0.mk ((by rw [hg]; exact Nat.ne_of_gt (blk_lt (g := gb730) (o := .cells #[.int .i64 a1_0, .int .i64 a1_1] 26 (0, 0)) zad4) : gb751 ≠ gb730)); clear HO736; clear HO741; clear HO744; clear HO750; clear BK729; clear BK730; clear HB; have HO736 := n0_; have HO741 := n1_; have HO744 := n2_; have HO750 := n3_; have BK729 := n4_; have BK730 := n5_; have HB := n6_; have BK751 := n7_; have GW751 := n8_; have GE751 := n9_; have NB729_751 := n10_; have NB751_729 := n11_; have NB730_751 := n12_; have NB751_730 := n13_; clear n0_ n1_ n2_ n3_ n4_ n5_ n6_ n7_ n8_ n9_ n10_ n11_ n12_ n13_; clear hb hbox hg; have hnb38 := NB751_729.out; have hnc38 := NB729_751.out; have hnb39 := NB751_730.out; have hnc39 := NB730_751.out; have hcz40_0 : w37.cell? ⟨gb751, 0, none⟩ = some (.int .i64 0) := (blk_cell BK751.out 0).trans rfl; have hcz40_1 : w37.cell? ⟨gb751, 1, none⟩ = some (.int .i64 0) := (blk_cell BK751.out 1).trans rfl; have hcz40_2 : w37.cell? ⟨gb751, 2, none⟩ = some (.slice none 0 0) := (blk_cell BK751.out 2).trans rfl; have hfz40_0 := blk_frozen BK751.out 0; have hfz40_1 := blk_frozen BK751.out 1; have hfz40_2 := blk_frozen BK751.out 2; obtain ⟨Ao41, co41, eo41⟩ := Kd.R_slice HO750.out; subst eo41) | ((with_reducible refine gate_callee (f := 19) rfl ?_); refine goesL_ (some 40) rfl rfl Try.func19 (by kernel_rfl) rfl #[.slice A2 l2.length c2] rfl zad3 ?_; (with_reducible refine (laws_toIntS.calls k _ _ l2 t752 _ ?side1 ?side2 A19.out).mono ?_); (case side1 => exact Kd.C_below HR2.out zad1); (case side2 => exact HC2.out); rintro e w42 ⟨v753, rfl, ho0, hb⟩; refine ⟨_, rfl, ?_⟩; have n0_ := Aside0.mk (Kd.R_elder' zad27 (Kd.R_base ho0) hb); have n1_ := Aside0.mk (Kd.R_elder' zad26 (Kd.R_base ho0) hb); have n2_ := Aside0.mk (Kd.R_elder' zad25 (Kd.R_base ho0) hb); have n3_ := Aside0.mk (Kd.R_elder' zad24 (Kd.R_base ho0) hb); have n4_ := Aside0.mk (Kd.R_lower (Kd.R_new' (Kd.R_new' (Kd.R_new' (Kd.R_new' ho0 (Kd.R_lt zad27)) (Kd.R_lt zad26)) (Kd.R_lt zad25)) (Kd.R_lt zad24)) (below_size zad1)); have n5_ := Aside0.mk (blk_below (g := gb729) (o := .cells #[.int .i64 a0_0, .int .i64 a0_1, .slice A0_2 l0_2.length c0_2] 24 (0, 0)) (by (with_reducible repeat (first | refine blk_drewN ?_ _ | refine blk_drew ?_ | refine blk_alloc ?_ _)); refine blk_far ?_ NB729_751.out _; (with_reducible repeat (first | refine blk_drewN ?_ _ | refine blk_drew ?_ | refine blk_alloc ?_ _)); refine blk_far ?_ NB729_751.out _; (with_reducible repeat (first | refine blk_drewN ?_ _ | refine blk_drew ?_ | refine blk_alloc ?_ _)); refine blk_far ?_ NB729_751.out _; (with_reducible repeat (first | refine blk_drewN ?_ _ | refine blk_drew ?_ | refine blk_alloc ?_ _)); exact BK729.out) hb); have n6_ := Aside0.mk (blk_below (g := gb730) (o := .cells #[.int .i64 a1_0, .int .i64 a1_1] 26 (0, 0)) (by (with_reducible repeat (first | refine blk_drewN ?_ _ | refine blk_drew ?_ | refine blk_alloc ?_ _)); refine blk_far ?_ NB730_751.out _; (with_reducible repeat (first | refine blk_drewN ?_ _ | refine blk_drew ?_ | refine blk_alloc ?_ _)); refine blk_far ?_ NB730_751.out _; (with_reducible repeat (first | refine blk_drewN ?_ _ | refine blk_drew ?_ | refine blk_alloc ?_ _)); refine blk_far ?_ NB730_751.out _; (with_reducible repeat (first | refine blk_drewN ?_ _ | refine blk_drew ?_ | refine blk_alloc ?_ _)); exact BK730.out) hb); have n7_ := Aside0.mk (blk_below (g := gb751) (o := .cells #[.int .i64 t746, .int .i64 t747, .slice Ao41 t748.length co41] 30 (0, 0)) (by (with_reducible repeat (first | refine blk_drewN ?_ _ | refine blk_drew ?_ | refine blk_alloc ?_ _)); refine blk_put (cs := #[.int .i64 t746, .int .i64 t747, .slice none 0 0]) ?_ 2 _ rfl; (with_reducible repeat (first | refine blk_drewN ?_ _ | refine blk_drew ?_ | refine blk_alloc ?_ _)); refine blk_put (cs := #[.int .i64 t746, .int .i64 0, .slice none 0 0]) ?_ 1 _ rfl; (with_reducible repeat (first | refine blk_drewN ?_ _ | refine blk_drew ?_ | refine blk_alloc ?_ _)); refine blk_put (cs := #[.int .i64 0, .int .i64 0, .slice none 0 0]) ?_ 0 _ rfl; (with_reducible repeat (first | refine blk_drewN ?_ _ | refine blk_drew ?_ | refine blk_alloc ?_ _)); exact BK751.out) hb); have n8_ := Aside0.mk (below_step zad1 hb); clear HO736; clear HO741; clear HO744; clear HO750; clear BK729; clear BK730; clear BK751; clear HB; have HO736 := n0_; have HO741 := n1_; have HO744 := n2_; have HO750 := n3_; have HO754 := n4_; have BK729 := n5_; have BK730 := n6_; have BK751 := n7_; have HB := n8_; clear n0_ n1_ n2_ n3_ n4_ n5_ n6_ n7_ n8_; (try clear hb); (try clear hb2); (try clear hk); (try clear hi); (try clear ho0); (try clear hna_); (try clear hnb_)))
 have n0_ := Aside0.mk (Kd.R_drew HO736.out)
 have n1_ := Aside0.mk (Kd.R_drew HO741.out)
 have n2_ := Aside0.mk (Kd.R_drew HO744.out)
 have n3_ := Aside0.mk (Kd.R_drew HO750.out)
 have n4_ := Aside0.mk (Kd.R_drew HO754.out)
 have n5_ := Aside0.mk (blk_drew BK729.out)
 have n6_ := Aside0.mk (blk_drew BK730.out)
 have n7_ := Aside0.mk (blk_drew BK751.out)
 have n8_ := Aside0.mk (below_drew1 HB.out)
 clear HO736
 clear HO741
 clear HO744
 clear HO750
 clear HO754
 clear BK729
 clear BK730
 clear BK751
 clear HB
 have HO736 := n0_
 have HO741 := n1_
 have HO744 := n2_
 have HO750 := n3_
 have HO754 := n4_
 have BK729 := n5_
 have BK730 := n6_
 have BK751 := n7_
 have HB := n8_
 clear n0_ n1_ n2_ n3_ n4_ n5_ n6_ n7_ n8_
 refine start_ (n := 10) (S := fun w' => w'.cell? ⟨gb751, 0, none⟩ = some (.int .i64 t746) ∧ w'.cell? ⟨gb751, 1, none⟩ = some (.int .i64 t747) ∧ w'.cell? ⟨gb751, 2, none⟩ = some (.slice Ao41 t748.length co41) ∧ w'.cell? ⟨gb730, 0, none⟩ = some (.int .i64 a1_0) ∧ w'.cell? ⟨gb730, 1, none⟩ = some (.int .i64 a1_1)) (ds := []) #[false, false, false, false, false, false, false, false, false, false] (by kernel_rfl) rfl rfl ⟨(blk_cell BK751.out 0).trans rfl, (blk_cell BK751.out 1).trans rfl, (blk_cell BK751.out 2).trans rfl, (blk_cell BK730.out 0).trans rfl, (blk_cell BK730.out 1).trans rfl⟩ (fun hHeld => ?_); refine with_tabW laws_FnExactReverseWalk.tab10 laws_FnExactReverseWalk.bits10 (fun HT_ HW_ => ?_)
 generalize w42.drew = w43 at HO736 HO741 HO744 HO750 HO754 BK729 BK730 BK751 HB hHeld ⊢
 refine pure_ (i := 3) (N := some 45) (v := ?_) (a' := ?_) #[false, false, false, true, false, false, false, false, false, false] rfl rfl (any_of HT_.out (by kernel_rfl)) (fun _ _ _ h => h) (Or.inl ⟨by rfl, ?_⟩) ?_ ?_
 rotate_left
 ·intro w'
  go_simp
  with_reducible rfl
 rotate_left
 ·simp only [Act.put, List.setIfInBounds_toArray, List.set_cons_zero, List.set_cons_succ, i64_w, i32_w]
  rfl
 refine take_ (i := 0) (N := some 42) (v := ?_) (a' := ?_) #[true, false, false, true, false, false, false, false, false, false] rfl rfl (take_ofW HT_.out HW_.out (by kernel_rfl)) (fun _ _ _ h => h) (Or.inl ⟨by rfl, ?_⟩) hHeld ?_ ?_
 rotate_left
 ·rintro w' ⟨s0, s1, s2, s3, s4⟩
  go_simp
  with_reducible rfl
 rotate_left
 ·simp only [Act.put, List.setIfInBounds_toArray, List.set_cons_zero, List.set_cons_succ, i64_w, i32_w]
  rfl
 refine take_ (i := 1) (N := some 43) (v := ?_) (a' := ?_) #[true, true, false, true, false, false, false, false, false, false] rfl rfl (take_ofW HT_.out HW_.out (by kernel_rfl)) (fun _ _ _ h => h) (Or.inl ⟨by rfl, ?_⟩) hHeld ?_ ?_
 rotate_left
 ·rintro w' ⟨s0, s1, s2, s3, s4⟩
  go_simp
  with_reducible rfl
 rotate_left
 ·simp only [Act.put, List.setIfInBounds_toArray, List.set_cons_zero, List.set_cons_succ, i64_w, i32_w]
  rfl
 refine one_ (i := 2) (N := some 44) #[true, true, true, true, false, false, false, false, false, false] rfl rfl (one_of HT_.out (by kernel_rfl)) (by decide) (fun K hK => ?_)
 refine goes_ Try.func18 (by kernel_rfl) rfl #[.agg #[.int .i64 a1_0, .int .i64 a1_1]] (by rfl) rfl rfl zad3 ?_
 with_reducible refine (laws_toLeaper.calls a1_0 a1_1 t755 t756 _ A20.out).mono ?_
 rintro e w44 ⟨rfl, hb⟩
 refine ⟨_, rfl, ?_⟩
 have n0_ := Aside0.mk (Kd.R_below zad16 hb)
 have n1_ := Aside0.mk (Kd.R_below zad18 hb)
 have n2_ := Aside0.mk (Kd.R_below zad20 hb)
 have n3_ := Aside0.mk (Kd.R_below zad31 hb)
 have n4_ := Aside0.mk (Kd.R_below zad36 hb)
 have n5_ := Aside0.mk (blk_below (g := gb729) (o := .cells #[.int .i64 a0_0, .int .i64 a0_1, .slice A0_2 l0_2.length c0_2] 24 (0, 0)) zad2 hb)
 have n6_ := Aside0.mk (blk_below (g := gb730) (o := .cells #[.int .i64 a1_0, .int .i64 a1_1] 26 (0, 0)) zad4 hb)
 have n7_ := Aside0.mk (blk_below (g := gb751) (o := .cells #[.int .i64 t746, .int .i64 t747, .slice Ao41 t748.length co41] 30 (0, 0)) zad7 hb)
 have n8_ := Aside0.mk (below_step zad1 hb)
 clear HO736
 clear HO741
 clear HO744
 clear HO750
 clear HO754
 clear BK729
 clear BK730
 clear BK751
 clear HB
 have HO736 := n0_
 have HO741 := n1_
 have HO744 := n2_
 have HO750 := n3_
 have HO754 := n4_
 have BK729 := n5_
 have BK730 := n6_
 have BK751 := n7_
 have HB := n8_
 clear n0_ n1_ n2_ n3_ n4_ n5_ n6_ n7_ n8_
 (try clear hb)
 (try clear hb2)
 (try clear hk)
 (try clear hi)
 (try clear hna_)
 (try clear hnb_)
 obtain ⟨Ao45, co45, eo45⟩ := Kd.R_slice HO754.out
 (first | subst eo45 | (injection eo45 with f1_ f2_ f3_; have f4_ := f1_.symm; have f5_ := f3_.symm; clear f1_ f2_ f3_; subst f4_; subst f5_))
 refine hK.out _ _ ⟨(blk_cell BK751.out 0).trans rfl, (blk_cell BK751.out 1).trans rfl, (blk_cell BK751.out 2).trans rfl, (blk_cell BK730.out 0).trans rfl, (blk_cell BK730.out 1).trans rfl⟩ (fun hHeld => ?_)
 clear hK K
 refine norm_ (a' := ?_) ?_ ?_
 rotate_left
 ·show Act.put _ (some 44) _ = _
  simp only [Act.put, List.setIfInBounds_toArray, List.set_cons_zero, List.set_cons_succ, i64_w, i32_w]
  rfl
 refine one_ (i := 4) (N := some 46) #[true, true, true, true, true, false, false, false, false, false] rfl rfl (one_of HT_.out (by kernel_rfl)) (by decide) (fun K hK => ?_)
 refine goes_ Try.func33 (by kernel_rfl) rfl #[.agg #[.int .i64 t746, .int .i64 t747, .slice Ao41 t748.length co41], .agg #[.int .i64 t755, .int .i64 t756], .slice Ao45 t752.length co45] (by rfl) rfl rfl zad3 ?_
 with_reducible refine (impl_ReverseWalk.calls k t746 t747 _ _ t748 t755 t756 _ _ t752 t757 t760 _ ?side1 ?side2 ?side3 ?side4 A21.out).mono ?_
 (case side1 => repeat (first | exact (Kd.R_reads' HO750.out).2.2 | (with_reducible refine Kd.C_alloc ?_ _) | (with_reducible refine Kd.C_drewN ?_ _) | (with_reducible refine Kd.C_drew ?_)))
 (case side2 => exact (Kd.R_reads' HO750.out).2.1)
 (case side3 => repeat (first | exact (Kd.R_reads' HO754.out).2.2 | (with_reducible refine Kd.C_alloc ?_ _) | (with_reducible refine Kd.C_drewN ?_ _) | (with_reducible refine Kd.C_drew ?_)))
 (case side4 => exact (Kd.R_reads' HO754.out).2.1)
 rintro e w46 ⟨v758, rfl, ho0, hb⟩
 refine ⟨_, rfl, ?_⟩
 have n0_ := Aside0.mk (Kd.R_elder' zad16 (Kd.R_base ho0) hb)
 have n1_ := Aside0.mk (Kd.R_elder' zad18 (Kd.R_base ho0) hb)
 have n2_ := Aside0.mk (Kd.R_elder' zad20 (Kd.R_base ho0) hb)
 have n3_ := Aside0.mk (Kd.R_elder' zad31 (Kd.R_base ho0) hb)
 have n4_ := Aside0.mk (Kd.R_elder' zad36 (Kd.R_base ho0) hb)
 have n5_ := Aside0.mk (Kd.R_lower (Kd.R_new' (Kd.R_new' (Kd.R_new' (Kd.R_new' (Kd.R_new' ho0 (Kd.R_lt zad16)) (Kd.R_lt zad18)) (Kd.R_lt zad20)) (Kd.R_lt zad31)) (Kd.R_lt zad36)) (below_size zad1))
 have n6_ := Aside0.mk (blk_below (g := gb729) (o := .cells #[.int .i64 a0_0, .int .i64 a0_1, .slice A0_2 l0_2.length c0_2] 24 (0, 0)) zad2 hb)
 have n7_ := Aside0.mk (blk_below (g := gb730) (o := .cells #[.int .i64 a1_0, .int .i64 a1_1] 26 (0, 0)) zad4 hb)
 have n8_ := Aside0.mk (blk_below (g := gb751) (o := .cells #[.int .i64 t746, .int .i64 t747, .slice Ao41 t748.length co41] 30 (0, 0)) zad7 hb)
 have n9_ := Aside0.mk (below_step zad1 hb)
 clear HO736
 clear HO741
 clear HO744
 clear HO750
 clear HO754
 clear BK729
 clear BK730
 clear BK751
 clear HB
 have HO736 := n0_
 have HO741 := n1_
 have HO744 := n2_
 have HO750 := n3_
 have HO754 := n4_
 have HO759 := n5_
 have BK729 := n6_
 have BK730 := n7_
 have BK751 := n8_
 have HB := n9_
 clear n0_ n1_ n2_ n3_ n4_ n5_ n6_ n7_ n8_ n9_
 (try clear hb)
 (try clear hb2)
 (try clear hk)
 (try clear hi)
 (try clear ho0)
 (try clear hna_)
 (try clear hnb_)
 refine hK.out _ _ ⟨(blk_cell BK751.out 0).trans rfl, (blk_cell BK751.out 1).trans rfl, (blk_cell BK751.out 2).trans rfl, (blk_cell BK730.out 0).trans rfl, (blk_cell BK730.out 1).trans rfl⟩ (fun hHeld => ?_)
 clear hK K
 refine norm_ (a' := ?_) ?_ ?_
 rotate_left
 ·show Act.put _ (some 46) _ = _
  simp only [Act.put, List.setIfInBounds_toArray, List.set_cons_zero, List.set_cons_succ, i64_w, i32_w]
  rfl
 refine pure_ (i := 5) (N := some 41) (v := ?_) (a' := ?_) #[true, true, true, true, true, true, false, false, false, false] rfl rfl (any_of HT_.out (by kernel_rfl)) (fun _ _ _ h => h) (Or.inl ⟨by rfl, ?_⟩) ?_ ?_
 rotate_left
 ·intro w'
  go_simp
  with_reducible rfl
 rotate_left
 ·simp only [Act.put, List.setIfInBounds_toArray, List.set_cons_zero, List.set_cons_succ, i64_w, i32_w]
  rfl
 refine pure_ (i := 6) (N := some 47) (v := ?_) (a' := ?_) #[true, true, true, true, true, true, true, false, false, false] rfl rfl (any_of HT_.out (by kernel_rfl)) (fun _ _ _ h => h) (Or.inl ⟨by rfl, ?_⟩) ?_ ?_
 rotate_left
 ·intro w'
  go_simp
  with_reducible rfl
 rotate_left
 ·simp only [Act.put, List.setIfInBounds_toArray, List.set_cons_zero, List.set_cons_succ, i64_w, i32_w]
  rfl
 refine pure_ (i := 7) (N := some 48) (v := ?_) (a' := ?_) #[true, true, true, true, true, true, true, true, false, false] rfl rfl (any_of HT_.out (by kernel_rfl)) (fun _ _ _ h => h) (Or.inl ⟨by rfl, ?_⟩) ?_ ?_
 rotate_left
 ·intro w'
  go_simp
  with_reducible rfl
 rotate_left
 ·simp only [Act.put, List.setIfInBounds_toArray, List.set_cons_zero, List.set_cons_succ, i64_w, i32_w]
  rfl
 refine pure_ (i := 8) (N := some 12) (v := ?_) (a' := ?_) #[true, true, true, true, true, true, true, true, true, false] rfl rfl (any_of HT_.out (by kernel_rfl)) (fun _ _ _ h => h) (Or.inl ⟨by rfl, ?_⟩) ?_ ?_
 rotate_left
 ·intro w'
  go_simp
  with_reducible rfl
 rotate_left
 ·simp only [Act.put, List.setIfInBounds_toArray, List.set_cons_zero, List.set_cons_succ, i64_w, i32_w]
  rfl
 refine pure_ (i := 9) (N := some 13) (v := ?_) (a' := ?_) #[true, true, true, true, true, true, true, true, true, true] rfl rfl (any_of HT_.out (by kernel_rfl)) (fun _ _ _ h => h) (Or.inl ⟨by rfl, ?_⟩) ?_ ?_
 rotate_left
 ·intro w'
  go_simp
  with_reducible rfl
 rotate_left
 ·simp only [Act.put, List.setIfInBounds_toArray, List.set_cons_zero, List.set_cons_succ, i64_w, i32_w]
  rfl
 refine done_ (done_of HT_.out (by kernel_rfl)) ?_
 go_upto_region 11 with (fail)
 go_cut [57] (fun v57 wc => ∃ (kq : Nat) (x57_21 : Bool), v57 = .bool x57_21 ∧ Aside0 (laws_FnExactReverseWalk.j0 kq l2 t742 t745 t752 t757 t760 x57_21 a0_0 a0_1 l0_2 a1_0 a1_1 t746 t747 t748 = some r) ∧ Aside0 (kq ≤ k) ∧ Aside0 (Kd.R (Kd.int .i64) 3 wc w.heap.size (fun k_ => some k_ ≠ ((.slice Ao45 t752.length co45) : Value).ownBlock ∧ some k_ ≠ (v758 : Value).ownBlock ∧ some k_ ≠ ((.slice Ao41 t748.length co41) : Value).ownBlock) v743 t742) ∧ Aside0 (Kd.R (Kd.int .i64) 3 wc w.heap.size (fun k_ => some k_ ≠ (v743 : Value).ownBlock ∧ some k_ ≠ (v758 : Value).ownBlock ∧ some k_ ≠ ((.slice Ao41 t748.length co41) : Value).ownBlock) (.slice Ao45 t752.length co45) t752) ∧ Aside0 (Kd.R (Kd.int .i64) 3 wc w.heap.size (fun k_ => some k_ ≠ (v743 : Value).ownBlock ∧ some k_ ≠ ((.slice Ao45 t752.length co45) : Value).ownBlock ∧ some k_ ≠ ((.slice Ao41 t748.length co41) : Value).ownBlock) v758 t757) ∧ Aside0 (Kd.R (Kd.int .i64) 3 wc w.heap.size (fun k_ => some k_ ≠ (v743 : Value).ownBlock ∧ some k_ ≠ ((.slice Ao45 t752.length co45) : Value).ownBlock ∧ some k_ ≠ (v758 : Value).ownBlock) (.slice Ao41 t748.length co41) t748) ∧ Aside0 (wc.heap[gb729]? = some (.cells #[.int .i64 a0_0, .int .i64 a0_1, (.slice A0_2 l0_2.length c0_2)] 24 (0, 0))) ∧ Aside0 (wc.heap[gb730]? = some (.cells #[.int .i64 a1_0, .int .i64 a1_1] 26 (0, 0))) ∧ Aside0 (wc.heap[gb751]? = some (.cells #[.int .i64 t746, .int .i64 t747, (.slice Ao41 t748.length co41)] 30 (0, 0))) ∧ Aside0 (Below w.heap.size w wc))
 case first =>
  have H := HC22.out
  clear HC22
  replace H := Option.bind_eq_some_iff.mp H
  obtain ⟨t761, A470, H⟩ := H
  replace H : (if t761 = true then (laws_FnExactReverseWalk.j0 k l2 t742 t745 t752 t757 t760 (t760 != t745) a0_0 a0_1 l0_2 a1_0 a1_1 t746 t747 t748) else (laws_FnExactReverseWalk.j0 k l2 t742 t745 t752 t757 t760 true a0_0 a0_1 l0_2 a1_0 a1_1 t746 t747 t748)) = some r := H
  have A47 := Aside0.mk A470
  clear A470
  by_cases c48 : t761 = true
  ·subst c48
   have H1 : (laws_FnExactReverseWalk.j0 k l2 t742 t745 t752 t757 t760 (t760 != t745) a0_0 a0_1 l0_2 a1_0 a1_1 t746 t747 t748) = some r := by rw [if_pos rfl] at H; exact H
   clear H
   have H := H1
   clear H1
   have H' := Aside0.mk H
   clear H
   obtain ⟨Ao49, co49, eo49⟩ := Kd.R_slice HO759.out
   subst eo49
   obtain ⟨Ao50, co50, eo50⟩ := Kd.R_slice HO744.out
   subst eo50
   go_wp2_with (first | ((with_reducible refine gate_callee (f := 21) rfl ?_); refine goesL_ (some 51) rfl rfl Try.func21 (by kernel_rfl) rfl #[.slice Ao49 t757.length co49, .slice Ao50 t742.length co50] rfl zad3 ?_; (with_reducible refine (laws_eqIntS.calls k _ _ t757 _ _ t742 true _ ?side1 ?side2 ?side3 ?side4 A47.out).mono ?_); (case side1 => exact zad47); (case side2 => exact (Kd.R_reads' HO759.out).2.1); (case side3 => exact zad48); (case side4 => exact (Kd.R_reads' HO744.out).2.1); rintro e w' ⟨rfl, ⟨nd, rfl⟩⟩; refine ⟨_, rfl, ?_⟩))
   go_meet
   case rel => exact ⟨_, ((t760 != t745)), zad35, H', ⟨by first | omega | exact Nat.le_refl _⟩, ⟨zad43⟩, ⟨zad41⟩, ⟨zad40⟩, ⟨zad42⟩, ⟨zad2⟩, ⟨zad4⟩, ⟨zad7⟩, ⟨zad1⟩⟩
  replace c48 := Bool.eq_false_iff.mpr c48
  subst c48
  have H1 : (laws_FnExactReverseWalk.j0 k l2 t742 t745 t752 t757 t760 true a0_0 a0_1 l0_2 a1_0 a1_1 t746 t747 t748) = some r := by rw [if_neg (show ¬ (false = true) by decide)] at H; exact H
  clear H
  have H := H1
  clear H1
  have H' := Aside0.mk H
  clear H
  obtain ⟨Ao51, co51, eo51⟩ := Kd.R_slice HO759.out
  subst eo51
  obtain ⟨Ao52, co52, eo52⟩ := Kd.R_slice HO744.out
  subst eo52
  go_wp2_with (first | ((with_reducible refine gate_callee (f := 21) rfl ?_); refine goesL_ (some 51) rfl rfl Try.func21 (by kernel_rfl) rfl #[.slice Ao51 t757.length co51, .slice Ao52 t742.length co52] rfl zad3 ?_; (with_reducible refine (laws_eqIntS.calls k _ _ t757 _ _ t742 false _ ?side1 ?side2 ?side3 ?side4 A47.out).mono ?_); (case side1 => exact zad47); (case side2 => exact (Kd.R_reads' HO759.out).2.1); (case side3 => exact zad48); (case side4 => exact (Kd.R_reads' HO744.out).2.1); rintro e w' ⟨rfl, ⟨nd, rfl⟩⟩; refine ⟨_, rfl, ?_⟩))
  go_meet
  case rel => exact ⟨_, (true), zad35, H', ⟨by first | omega | exact Nat.le_refl _⟩, ⟨zad43⟩, ⟨zad41⟩, ⟨zad40⟩, ⟨zad42⟩, ⟨zad2⟩, ⟨zad4⟩, ⟨zad7⟩, ⟨zad1⟩⟩
 case rest =>
  clear HC22
  try clear c1; try clear c2; try clear p2; try clear c3; try clear c4; try clear c4b0; try clear c4b1; try clear c7; try clear c8; try clear c8b0; try clear c11; try clear c15; try clear c17; try clear c18; try clear c19; try clear c21; try clear c25; try clear c32; try clear c33; try clear c38; try clear c39; try clear c48; try clear hcz12_0; try clear hcz12_1; try clear hcz12_2; try clear hcz26_0; try clear hcz26_1; try clear hcz26_2; try clear hcz35_0; try clear hcz35_1; try clear hcz35_2; try clear hcz40_0; try clear hcz40_1; try clear hcz40_2; try clear hfz12_0; try clear hfz12_1; try clear hfz12_2
  try clear hfz26_0; try clear hfz26_1; try clear hfz26_2; try clear hfz35_0; try clear hfz35_1; try clear hfz35_2; try clear hfz40_0; try clear hfz40_1; try clear hfz40_2
  obtain ⟨kq, x57_21, rfl, HA, HJ21, HO_8, HO_11, HO_12, HO_752002, BK729, BK730, BK751, HB⟩ := hcut
  cases kq with
  | zero => exact absurd HA.out (by simp [laws_FnExactReverseWalk.j0])
  | succ kj21 =>
   have H := HA.out
   clear HA
   simp only [laws_FnExactReverseWalk.j0] at H
   by_cases c53 : x57_21 = true
   ·subst c53
    have H1 : (some false) = some r := by rw [if_pos rfl] at H; exact H
    clear H
    have H := H1
    clear H1
    obtain rfl := Option.some.inj H
    go_wp2
    go_ret
    exact ⟨zad17, zad1⟩
   replace c53 := Bool.eq_false_iff.mpr c53
   subst c53
   have H1 : ((laws_toBoard.f kj21 a0_0 a0_1 l0_2).bind fun bt762 => ((laws_eqBoard.f kj21 t746 t747 t748 bt762.1 bt762.2.1 bt762.2.2).bind fun t767 => (if t767 = true then ((laws_toIntS.f kj21 l2).bind fun t768 => ((laws_eqIntS.f kj21 t752 t768).bind fun t771 => (if t771 = true then ((laws_markBoard.f kj21 t746 t747 t748 1).bind fun bt772 => ((laws_markIntS.f kj21 t752 bt772.1).bind fun bt774 => (if bt774.1 < 0 then (laws_FnExactReverseWalk.j1 kj21 l2 t742 t745 t757 true a0_0 a0_1 l0_2 a1_0 a1_1) else ((laws_eqIntS.f kj21 t757 t742).bind fun t776 => (if t776 = true then (laws_FnExactReverseWalk.j1 kj21 l2 t742 t745 t757 (t760 != t745) a0_0 a0_1 l0_2 a1_0 a1_1) else (laws_FnExactReverseWalk.j1 kj21 l2 t742 t745 t757 true a0_0 a0_1 l0_2 a1_0 a1_1)))))) else (some false)))) else (some false)))) = some r := by rw [if_neg (show ¬ (false = true) by decide)] at H; exact H
   clear H
   have H := H1
   clear H1
   replace H := Option.bind_eq_some_iff.mp H
   obtain ⟨⟨t762, t763, t764⟩, A540, H⟩ := H
   replace H : ((laws_eqBoard.f kj21 t746 t747 t748 t762 t763 t764).bind fun t767 => (if t767 = true then ((laws_toIntS.f kj21 l2).bind fun t768 => ((laws_eqIntS.f kj21 t752 t768).bind fun t771 => (if t771 = true then ((laws_markBoard.f kj21 t746 t747 t748 1).bind fun bt772 => ((laws_markIntS.f kj21 t752 bt772.1).bind fun bt774 => (if bt774.1 < 0 then (laws_FnExactReverseWalk.j1 kj21 l2 t742 t745 t757 true a0_0 a0_1 l0_2 a1_0 a1_1) else ((laws_eqIntS.f kj21 t757 t742).bind fun t776 => (if t776 = true then (laws_FnExactReverseWalk.j1 kj21 l2 t742 t745 t757 (t760 != t745) a0_0 a0_1 l0_2 a1_0 a1_1) else (laws_FnExactReverseWalk.j1 kj21 l2 t742 t745 t757 true a0_0 a0_1 l0_2 a1_0 a1_1)))))) else (some false)))) else (some false))) = some r := H
   have A54 := Aside0.mk A540
   clear A540
   replace H := Option.bind_eq_some_iff.mp H
   obtain ⟨t767, A550, H⟩ := H
   replace H : (if t767 = true then ((laws_toIntS.f kj21 l2).bind fun t768 => ((laws_eqIntS.f kj21 t752 t768).bind fun t771 => (if t771 = true then ((laws_markBoard.f kj21 t746 t747 t748 1).bind fun bt772 => ((laws_markIntS.f kj21 t752 bt772.1).bind fun bt774 => (if bt774.1 < 0 then (laws_FnExactReverseWalk.j1 kj21 l2 t742 t745 t757 true a0_0 a0_1 l0_2 a1_0 a1_1) else ((laws_eqIntS.f kj21 t757 t742).bind fun t776 => (if t776 = true then (laws_FnExactReverseWalk.j1 kj21 l2 t742 t745 t757 (t760 != t745) a0_0 a0_1 l0_2 a1_0 a1_1) else (laws_FnExactReverseWalk.j1 kj21 l2 t742 t745 t757 true a0_0 a0_1 l0_2 a1_0 a1_1)))))) else (some false)))) else (some false)) = some r := H
   have A55 := Aside0.mk A550
   clear A550
   by_cases c56 : t767 = true
   rotate_left
   ·replace c56 := Bool.eq_false_iff.mpr c56
    subst c56
    have H1 : (some false) = some r := by rw [if_neg (show ¬ (false = true) by decide)] at H; exact H
    clear H
    have H := H1
    clear H1
    obtain rfl := Option.some.inj H
    try go_wp2
    have n0_ := Aside0.mk (Kd.R_drew HO_8.out)
    have n1_ := Aside0.mk (Kd.R_drew HO_11.out)
    have n2_ := Aside0.mk (Kd.R_drew HO_12.out)
    have n3_ := Aside0.mk (Kd.R_drew HO_752002.out)
    have n4_ := Aside0.mk (blk_drew BK729.out)
    have n5_ := Aside0.mk (blk_drew BK730.out)
    have n6_ := Aside0.mk (blk_drew BK751.out)
    have n7_ := Aside0.mk (below_drew1 HB.out)
    clear HO_8
    clear HO_11
    clear HO_12
    clear HO_752002
    clear BK729
    clear BK730
    clear BK751
    clear HB
    have HO_8 := n0_
    have HO_11 := n1_
    have HO_12 := n2_
    have HO_752002 := n3_
    have BK729 := n4_
    have BK730 := n5_
    have BK751 := n6_
    have HB := n7_
    clear n0_ n1_ n2_ n3_ n4_ n5_ n6_ n7_
    refine start_ (n := 5) (S := fun w' => w'.cell? ⟨gb751, 0, none⟩ = some (.int .i64 t746) ∧ w'.cell? ⟨gb751, 1, none⟩ = some (.int .i64 t747) ∧ w'.cell? ⟨gb751, 2, none⟩ = some (.slice Ao41 t748.length co41) ∧ w'.cell? ⟨gb729, 0, none⟩ = some (.int .i64 a0_0) ∧ w'.cell? ⟨gb729, 1, none⟩ = some (.int .i64 a0_1) ∧ w'.cell? ⟨gb729, 2, none⟩ = some (.slice A0_2 l0_2.length c0_2)) (ds := []) #[false, false, false, false, false] (by kernel_rfl) rfl rfl ⟨(blk_cell BK751.out 0).trans rfl, (blk_cell BK751.out 1).trans rfl, (blk_cell BK751.out 2).trans rfl, (blk_cell BK729.out 0).trans rfl, (blk_cell BK729.out 1).trans rfl, (blk_cell BK729.out 2).trans rfl⟩ (fun hHeld => ?_)
    generalize wc.drew = w120 at HO_8 HO_11 HO_12 HO_752002 BK729 BK730 BK751 HB hHeld ⊢
    refine take_ (i := 0) (N := some 58) (v := ?_) (a' := ?_) #[true, false, false, false, false] rfl rfl (by kernel_rfl) (fun _ _ _ h => h) (Or.inl ⟨by rfl, ?_⟩) hHeld ?_ ?_
    rotate_left
    ·rintro w' ⟨s0, s1, s2, s3, s4, s5⟩
     go_simp
     with_reducible rfl
    rotate_left
    ·simp only [Act.put, List.setIfInBounds_toArray, List.set_cons_zero, List.set_cons_succ, i64_w, i32_w]
     rfl
    refine take_ (i := 1) (N := some 59) (v := ?_) (a' := ?_) #[true, true, false, false, false] rfl rfl (by kernel_rfl) (fun _ _ _ h => h) (Or.inl ⟨by rfl, ?_⟩) hHeld ?_ ?_
    rotate_left
    ·rintro w' ⟨s0, s1, s2, s3, s4, s5⟩
     go_simp
     with_reducible rfl
    rotate_left
    ·simp only [Act.put, List.setIfInBounds_toArray, List.set_cons_zero, List.set_cons_succ, i64_w, i32_w]
     rfl
    refine one_ (i := 2) (N := some 60) #[true, true, true, false, false] rfl rfl (by kernel_rfl) (by decide) (fun K hK => ?_)
    refine goes_ Try.func17 (by kernel_rfl) rfl #[.agg #[.int .i64 a0_0, .int .i64 a0_1, .slice A0_2 l0_2.length c0_2]] (by rfl) rfl rfl zad3 ?_
    with_reducible refine (laws_toBoard.calls kj21 a0_0 a0_1 _ _ l0_2 t762 t763 t764 _ ?side1 ?side2 A54.out).mono ?_
    (case side1 => exact zad13)
    (case side2 => exact HC0_2.out)
    rintro e w121 ⟨v765, rfl, ho0, hb⟩
    refine ⟨_, rfl, ?_⟩
    have n0_ := Aside0.mk (Kd.R_elder' zad10 (Kd.R_base ho0) hb)
    have n1_ := Aside0.mk (Kd.R_elder' zad12 (Kd.R_base ho0) hb)
    have n2_ := Aside0.mk (Kd.R_elder' zad9 (Kd.R_base ho0) hb)
    have n3_ := Aside0.mk (Kd.R_elder' zad8 (Kd.R_base ho0) hb)
    have n4_ := Aside0.mk (Kd.R_lower (Kd.R_new' (Kd.R_new' (Kd.R_new' (Kd.R_new' ho0 (Kd.R_lt zad10)) (Kd.R_lt zad12)) (Kd.R_lt zad9)) (Kd.R_lt zad8)) (below_size zad1))
    have n5_ := Aside0.mk (blk_below (g := gb729) (o := .cells #[.int .i64 a0_0, .int .i64 a0_1, .slice A0_2 l0_2.length c0_2] 24 (0, 0)) zad2 hb)
    have n6_ := Aside0.mk (blk_below (g := gb730) (o := .cells #[.int .i64 a1_0, .int .i64 a1_1] 26 (0, 0)) zad4 hb)
    have n7_ := Aside0.mk (blk_below (g := gb751) (o := .cells #[.int .i64 t746, .int .i64 t747, .slice Ao41 t748.length co41] 30 (0, 0)) zad7 hb)
    have n8_ := Aside0.mk (below_step zad1 hb)
    clear HO_8
    clear HO_11
    clear HO_12
    clear HO_752002
    clear BK729
    clear BK730
    clear BK751
    clear HB
    have HO_8 := n0_
    have HO_11 := n1_
    have HO_12 := n2_
    have HO_752002 := n3_
    have HO766 := n4_
    have BK729 := n5_
    have BK730 := n6_
    have BK751 := n7_
    have HB := n8_
    clear n0_ n1_ n2_ n3_ n4_ n5_ n6_ n7_ n8_
    (try clear hb)
    (try clear hb2)
    (try clear hk)
    (try clear hi)
    (try clear ho0)
    (try clear hna_)
    (try clear hnb_)
    obtain ⟨Ao122, co122, eo122⟩ := Kd.R_slice HO766.out
    (first | subst eo122 | (injection eo122 with f1_ f2_ f3_; have f4_ := f1_.symm; have f5_ := f3_.symm; clear f1_ f2_ f3_; subst f4_; subst f5_))
    refine hK.out _ _ ⟨(blk_cell BK751.out 0).trans rfl, (blk_cell BK751.out 1).trans rfl, (blk_cell BK751.out 2).trans rfl, (blk_cell BK729.out 0).trans rfl, (blk_cell BK729.out 1).trans rfl, (blk_cell BK729.out 2).trans rfl⟩ (fun hHeld => ?_)
    clear hK K
    refine norm_ (a' := ?_) ?_ ?_
    rotate_left
    ·show Act.put _ (some 60) _ = _
     simp only [Act.put, List.setIfInBounds_toArray, List.set_cons_zero, List.set_cons_succ, i64_w, i32_w]
     rfl
    refine one_ (i := 3) (N := some 61) #[true, true, true, true, false] rfl rfl (by kernel_rfl) (by decide) (fun K hK => ?_)
    refine goes_ Try.func22 (by kernel_rfl) rfl #[.agg #[.int .i64 t746, .int .i64 t747, .slice Ao41 t748.length co41], .agg #[.int .i64 t762, .int .i64 t763, .slice Ao122 t764.length co122]] (by rfl) rfl rfl zad3 ?_
    with_reducible refine (laws_eqBoard.calls kj21 t746 t747 _ _ t748 t762 t763 _ _ t764 false _ ?side1 ?side2 ?side3 ?side4 A55.out).mono ?_
    (case side1 => exact zad29)
    (case side2 => exact (Kd.R_reads' HO_752002.out).2.1)
    (case side3 => exact zad30)
    (case side4 => exact (Kd.R_reads' HO766.out).2.1)
    rintro e w123 ⟨rfl, hb⟩
    refine ⟨_, rfl, ?_⟩
    have n0_ := Aside0.mk (Kd.R_below zad10 hb)
    have n1_ := Aside0.mk (Kd.R_below zad12 hb)
    have n2_ := Aside0.mk (Kd.R_below zad9 hb)
    have n3_ := Aside0.mk (Kd.R_below zad8 hb)
    have n4_ := Aside0.mk (Kd.R_below zad19 hb)
    have n5_ := Aside0.mk (blk_below (g := gb729) (o := .cells #[.int .i64 a0_0, .int .i64 a0_1, .slice A0_2 l0_2.length c0_2] 24 (0, 0)) zad2 hb)
    have n6_ := Aside0.mk (blk_below (g := gb730) (o := .cells #[.int .i64 a1_0, .int .i64 a1_1] 26 (0, 0)) zad4 hb)
    have n7_ := Aside0.mk (blk_below (g := gb751) (o := .cells #[.int .i64 t746, .int .i64 t747, .slice Ao41 t748.length co41] 30 (0, 0)) zad7 hb)
    have n8_ := Aside0.mk (below_step zad1 hb)
    clear HO_8
    clear HO_11
    clear HO_12
    clear HO_752002
    clear HO766
    clear BK729
    clear BK730
    clear BK751
    clear HB
    have HO_8 := n0_
    have HO_11 := n1_
    have HO_12 := n2_
    have HO_752002 := n3_
    have HO766 := n4_
    have BK729 := n5_
    have BK730 := n6_
    have BK751 := n7_
    have HB := n8_
    clear n0_ n1_ n2_ n3_ n4_ n5_ n6_ n7_ n8_
    (try clear hb)
    (try clear hb2)
    (try clear hk)
    (try clear hi)
    (try clear hna_)
    (try clear hnb_)
    refine hK.out _ _ ⟨(blk_cell BK751.out 0).trans rfl, (blk_cell BK751.out 1).trans rfl, (blk_cell BK751.out 2).trans rfl, (blk_cell BK729.out 0).trans rfl, (blk_cell BK729.out 1).trans rfl, (blk_cell BK729.out 2).trans rfl⟩ (fun hHeld => ?_)
    clear hK K
    refine norm_ (a' := ?_) ?_ ?_
    rotate_left
    ·show Act.put _ (some 61) _ = _
     simp only [Act.put, List.setIfInBounds_toArray, List.set_cons_zero, List.set_cons_succ, i64_w, i32_w]
     rfl
    refine pure_ (i := 4) (N := some 62) (v := ?_) (a' := ?_) #[true, true, true, true, true] rfl rfl (by kernel_rfl) (fun _ _ _ h => h) (Or.inl ⟨by rfl, ?_⟩) ?_ ?_
    rotate_left
    ·intro w'
     go_simp
     with_reducible rfl
    rotate_left
    ·simp only [Act.put, List.setIfInBounds_toArray, List.set_cons_zero, List.set_cons_succ, i64_w, i32_w]
     rfl
    refine done_ (by kernel_rfl) ?_
    try go_wp2
    go_ret
    exact ⟨zad17, zad1⟩
   subst c56
   have H1 : ((laws_toIntS.f kj21 l2).bind fun t768 => ((laws_eqIntS.f kj21 t752 t768).bind fun t771 => (if t771 = true then ((laws_markBoard.f kj21 t746 t747 t748 1).bind fun bt772 => ((laws_markIntS.f kj21 t752 bt772.1).bind fun bt774 => (if bt774.1 < 0 then (laws_FnExactReverseWalk.j1 kj21 l2 t742 t745 t757 true a0_0 a0_1 l0_2 a1_0 a1_1) else ((laws_eqIntS.f kj21 t757 t742).bind fun t776 => (if t776 = true then (laws_FnExactReverseWalk.j1 kj21 l2 t742 t745 t757 (t760 != t745) a0_0 a0_1 l0_2 a1_0 a1_1) else (laws_FnExactReverseWalk.j1 kj21 l2 t742 t745 t757 true a0_0 a0_1 l0_2 a1_0 a1_1)))))) else (some false)))) = some r := by rw [if_pos rfl] at H; exact H
   clear H
   have H := H1
   clear H1
   replace H := Option.bind_eq_some_iff.mp H
   obtain ⟨t768, A570, H⟩ := H
   replace H : ((laws_eqIntS.f kj21 t752 t768).bind fun t771 => (if t771 = true then ((laws_markBoard.f kj21 t746 t747 t748 1).bind fun bt772 => ((laws_markIntS.f kj21 t752 bt772.1).bind fun bt774 => (if bt774.1 < 0 then (laws_FnExactReverseWalk.j1 kj21 l2 t742 t745 t757 true a0_0 a0_1 l0_2 a1_0 a1_1) else ((laws_eqIntS.f kj21 t757 t742).bind fun t776 => (if t776 = true then (laws_FnExactReverseWalk.j1 kj21 l2 t742 t745 t757 (t760 != t745) a0_0 a0_1 l0_2 a1_0 a1_1) else (laws_FnExactReverseWalk.j1 kj21 l2 t742 t745 t757 true a0_0 a0_1 l0_2 a1_0 a1_1)))))) else (some false))) = some r := H
   have A57 := Aside0.mk A570
   clear A570
   replace H := Option.bind_eq_some_iff.mp H
   obtain ⟨t771, A580, H⟩ := H
   replace H : (if t771 = true then ((laws_markBoard.f kj21 t746 t747 t748 1).bind fun bt772 => ((laws_markIntS.f kj21 t752 bt772.1).bind fun bt774 => (if bt774.1 < 0 then (laws_FnExactReverseWalk.j1 kj21 l2 t742 t745 t757 true a0_0 a0_1 l0_2 a1_0 a1_1) else ((laws_eqIntS.f kj21 t757 t742).bind fun t776 => (if t776 = true then (laws_FnExactReverseWalk.j1 kj21 l2 t742 t745 t757 (t760 != t745) a0_0 a0_1 l0_2 a1_0 a1_1) else (laws_FnExactReverseWalk.j1 kj21 l2 t742 t745 t757 true a0_0 a0_1 l0_2 a1_0 a1_1)))))) else (some false)) = some r := H
   have A58 := Aside0.mk A580
   clear A580
   by_cases c59 : t771 = true
   rotate_left
   ·replace c59 := Bool.eq_false_iff.mpr c59
    subst c59
    have H1 : (some false) = some r := by rw [if_neg (show ¬ (false = true) by decide)] at H; exact H
    clear H
    have H := H1
    clear H1
    obtain rfl := Option.some.inj H
    try go_wp2
    have n0_ := Aside0.mk (Kd.R_drew HO_8.out)
    have n1_ := Aside0.mk (Kd.R_drew HO_11.out)
    have n2_ := Aside0.mk (Kd.R_drew HO_12.out)
    have n3_ := Aside0.mk (Kd.R_drew HO_752002.out)
    have n4_ := Aside0.mk (blk_drew BK729.out)
    have n5_ := Aside0.mk (blk_drew BK730.out)
    have n6_ := Aside0.mk (blk_drew BK751.out)
    have n7_ := Aside0.mk (below_drew1 HB.out)
    clear HO_8
    clear HO_11
    clear HO_12
    clear HO_752002
    clear BK729
    clear BK730
    clear BK751
    clear HB
    have HO_8 := n0_
    have HO_11 := n1_
    have HO_12 := n2_
    have HO_752002 := n3_
    have BK729 := n4_
    have BK730 := n5_
    have BK751 := n6_
    have HB := n7_
    clear n0_ n1_ n2_ n3_ n4_ n5_ n6_ n7_
    refine start_ (n := 5) (S := fun w' => w'.cell? ⟨gb751, 0, none⟩ = some (.int .i64 t746) ∧ w'.cell? ⟨gb751, 1, none⟩ = some (.int .i64 t747) ∧ w'.cell? ⟨gb751, 2, none⟩ = some (.slice Ao41 t748.length co41) ∧ w'.cell? ⟨gb729, 0, none⟩ = some (.int .i64 a0_0) ∧ w'.cell? ⟨gb729, 1, none⟩ = some (.int .i64 a0_1) ∧ w'.cell? ⟨gb729, 2, none⟩ = some (.slice A0_2 l0_2.length c0_2)) (ds := []) #[false, false, false, false, false] (by kernel_rfl) rfl rfl ⟨(blk_cell BK751.out 0).trans rfl, (blk_cell BK751.out 1).trans rfl, (blk_cell BK751.out 2).trans rfl, (blk_cell BK729.out 0).trans rfl, (blk_cell BK729.out 1).trans rfl, (blk_cell BK729.out 2).trans rfl⟩ (fun hHeld => ?_)
    generalize wc.drew = w114 at HO_8 HO_11 HO_12 HO_752002 BK729 BK730 BK751 HB hHeld ⊢
    refine take_ (i := 0) (N := some 58) (v := ?_) (a' := ?_) #[true, false, false, false, false] rfl rfl (by kernel_rfl) (fun _ _ _ h => h) (Or.inl ⟨by rfl, ?_⟩) hHeld ?_ ?_
    rotate_left
    ·rintro w' ⟨s0, s1, s2, s3, s4, s5⟩
     go_simp
     with_reducible rfl
    rotate_left
    ·simp only [Act.put, List.setIfInBounds_toArray, List.set_cons_zero, List.set_cons_succ, i64_w, i32_w]
     rfl
    refine take_ (i := 1) (N := some 59) (v := ?_) (a' := ?_) #[true, true, false, false, false] rfl rfl (by kernel_rfl) (fun _ _ _ h => h) (Or.inl ⟨by rfl, ?_⟩) hHeld ?_ ?_
    rotate_left
    ·rintro w' ⟨s0, s1, s2, s3, s4, s5⟩
     go_simp
     with_reducible rfl
    rotate_left
    ·simp only [Act.put, List.setIfInBounds_toArray, List.set_cons_zero, List.set_cons_succ, i64_w, i32_w]
     rfl
    refine one_ (i := 2) (N := some 60) #[true, true, true, false, false] rfl rfl (by kernel_rfl) (by decide) (fun K hK => ?_)
    refine goes_ Try.func17 (by kernel_rfl) rfl #[.agg #[.int .i64 a0_0, .int .i64 a0_1, .slice A0_2 l0_2.length c0_2]] (by rfl) rfl rfl zad3 ?_
    with_reducible refine (laws_toBoard.calls kj21 a0_0 a0_1 _ _ l0_2 t762 t763 t764 _ ?side1 ?side2 A54.out).mono ?_
    (case side1 => exact zad13)
    (case side2 => exact HC0_2.out)
    rintro e w115 ⟨v765, rfl, ho0, hb⟩
    refine ⟨_, rfl, ?_⟩
    have n0_ := Aside0.mk (Kd.R_elder' zad10 (Kd.R_base ho0) hb)
    have n1_ := Aside0.mk (Kd.R_elder' zad12 (Kd.R_base ho0) hb)
    have n2_ := Aside0.mk (Kd.R_elder' zad9 (Kd.R_base ho0) hb)
    have n3_ := Aside0.mk (Kd.R_elder' zad8 (Kd.R_base ho0) hb)
    have n4_ := Aside0.mk (Kd.R_lower (Kd.R_new' (Kd.R_new' (Kd.R_new' (Kd.R_new' ho0 (Kd.R_lt zad10)) (Kd.R_lt zad12)) (Kd.R_lt zad9)) (Kd.R_lt zad8)) (below_size zad1))
    have n5_ := Aside0.mk (blk_below (g := gb729) (o := .cells #[.int .i64 a0_0, .int .i64 a0_1, .slice A0_2 l0_2.length c0_2] 24 (0, 0)) zad2 hb)
    have n6_ := Aside0.mk (blk_below (g := gb730) (o := .cells #[.int .i64 a1_0, .int .i64 a1_1] 26 (0, 0)) zad4 hb)
    have n7_ := Aside0.mk (blk_below (g := gb751) (o := .cells #[.int .i64 t746, .int .i64 t747, .slice Ao41 t748.length co41] 30 (0, 0)) zad7 hb)
    have n8_ := Aside0.mk (below_step zad1 hb)
    clear HO_8
    clear HO_11
    clear HO_12
    clear HO_752002
    clear BK729
    clear BK730
    clear BK751
    clear HB
    have HO_8 := n0_
    have HO_11 := n1_
    have HO_12 := n2_
    have HO_752002 := n3_
    have HO766 := n4_
    have BK729 := n5_
    have BK730 := n6_
    have BK751 := n7_
    have HB := n8_
    clear n0_ n1_ n2_ n3_ n4_ n5_ n6_ n7_ n8_
    (try clear hb)
    (try clear hb2)
    (try clear hk)
    (try clear hi)
    (try clear ho0)
    (try clear hna_)
    (try clear hnb_)
    obtain ⟨Ao116, co116, eo116⟩ := Kd.R_slice HO766.out
    (first | subst eo116 | (injection eo116 with f1_ f2_ f3_; have f4_ := f1_.symm; have f5_ := f3_.symm; clear f1_ f2_ f3_; subst f4_; subst f5_))
    refine hK.out _ _ ⟨(blk_cell BK751.out 0).trans rfl, (blk_cell BK751.out 1).trans rfl, (blk_cell BK751.out 2).trans rfl, (blk_cell BK729.out 0).trans rfl, (blk_cell BK729.out 1).trans rfl, (blk_cell BK729.out 2).trans rfl⟩ (fun hHeld => ?_)
    clear hK K
    refine norm_ (a' := ?_) ?_ ?_
    rotate_left
    ·show Act.put _ (some 60) _ = _
     simp only [Act.put, List.setIfInBounds_toArray, List.set_cons_zero, List.set_cons_succ, i64_w, i32_w]
     rfl
    refine one_ (i := 3) (N := some 61) #[true, true, true, true, false] rfl rfl (by kernel_rfl) (by decide) (fun K hK => ?_)
    refine goes_ Try.func22 (by kernel_rfl) rfl #[.agg #[.int .i64 t746, .int .i64 t747, .slice Ao41 t748.length co41], .agg #[.int .i64 t762, .int .i64 t763, .slice Ao116 t764.length co116]] (by rfl) rfl rfl zad3 ?_
    with_reducible refine (laws_eqBoard.calls kj21 t746 t747 _ _ t748 t762 t763 _ _ t764 true _ ?side1 ?side2 ?side3 ?side4 A55.out).mono ?_
    (case side1 => exact zad29)
    (case side2 => exact (Kd.R_reads' HO_752002.out).2.1)
    (case side3 => exact zad30)
    (case side4 => exact (Kd.R_reads' HO766.out).2.1)
    rintro e w117 ⟨rfl, hb⟩
    refine ⟨_, rfl, ?_⟩
    have n0_ := Aside0.mk (Kd.R_below zad10 hb)
    have n1_ := Aside0.mk (Kd.R_below zad12 hb)
    have n2_ := Aside0.mk (Kd.R_below zad9 hb)
    have n3_ := Aside0.mk (Kd.R_below zad8 hb)
    have n4_ := Aside0.mk (Kd.R_below zad19 hb)
    have n5_ := Aside0.mk (blk_below (g := gb729) (o := .cells #[.int .i64 a0_0, .int .i64 a0_1, .slice A0_2 l0_2.length c0_2] 24 (0, 0)) zad2 hb)
    have n6_ := Aside0.mk (blk_below (g := gb730) (o := .cells #[.int .i64 a1_0, .int .i64 a1_1] 26 (0, 0)) zad4 hb)
    have n7_ := Aside0.mk (blk_below (g := gb751) (o := .cells #[.int .i64 t746, .int .i64 t747, .slice Ao41 t748.length co41] 30 (0, 0)) zad7 hb)
    have n8_ := Aside0.mk (below_step zad1 hb)
    clear HO_8
    clear HO_11
    clear HO_12
    clear HO_752002
    clear HO766
    clear BK729
    clear BK730
    clear BK751
    clear HB
    have HO_8 := n0_
    have HO_11 := n1_
    have HO_12 := n2_
    have HO_752002 := n3_
    have HO766 := n4_
    have BK729 := n5_
    have BK730 := n6_
    have BK751 := n7_
    have HB := n8_
    clear n0_ n1_ n2_ n3_ n4_ n5_ n6_ n7_ n8_
    (try clear hb)
    (try clear hb2)
    (try clear hk)
    (try clear hi)
    (try clear hna_)
    (try clear hnb_)
    refine hK.out _ _ ⟨(blk_cell BK751.out 0).trans rfl, (blk_cell BK751.out 1).trans rfl, (blk_cell BK751.out 2).trans rfl, (blk_cell BK729.out 0).trans rfl, (blk_cell BK729.out 1).trans rfl, (blk_cell BK729.out 2).trans rfl⟩ (fun hHeld => ?_)
    clear hK K
    refine norm_ (a' := ?_) ?_ ?_
    rotate_left
    ·show Act.put _ (some 61) _ = _
     simp only [Act.put, List.setIfInBounds_toArray, List.set_cons_zero, List.set_cons_succ, i64_w, i32_w]
     rfl
    refine pure_ (i := 4) (N := some 62) (v := ?_) (a' := ?_) #[true, true, true, true, true] rfl rfl (by kernel_rfl) (fun _ _ _ h => h) (Or.inl ⟨by rfl, ?_⟩) ?_ ?_
    rotate_left
    ·intro w'
     go_simp
     with_reducible rfl
    rotate_left
    ·simp only [Act.put, List.setIfInBounds_toArray, List.set_cons_zero, List.set_cons_succ, i64_w, i32_w]
     rfl
    refine done_ (by kernel_rfl) ?_
    try go_wp2_with (first | ((with_reducible refine gate_callee (f := 19) rfl ?_); refine goesL_ (some 65) rfl rfl Try.func19 (by kernel_rfl) rfl #[.slice A2 l2.length c2] rfl zad3 ?_; (with_reducible refine (laws_toIntS.calls kj21 _ _ l2 t768 _ ?side1 ?side2 A57.out).mono ?_); (case side1 => exact zad21); (case side2 => exact HC2.out); rintro e w118 ⟨v769, rfl, ho0, hb⟩; refine ⟨_, rfl, ?_⟩; have n0_ := Aside0.mk (Kd.R_elder' zad10 (Kd.R_base ho0) hb); have n1_ := Aside0.mk (Kd.R_elder' zad12 (Kd.R_base ho0) hb); have n2_ := Aside0.mk (Kd.R_elder' zad9 (Kd.R_base ho0) hb); have n3_ := Aside0.mk (Kd.R_elder' zad8 (Kd.R_base ho0) hb); have n4_ := Aside0.mk (Kd.R_elder' zad19 (Kd.R_base ho0) hb); have n5_ := Aside0.mk (Kd.R_lower (Kd.R_new' (Kd.R_new' (Kd.R_new' (Kd.R_new' (Kd.R_new' ho0 (Kd.R_lt zad10)) (Kd.R_lt zad12)) (Kd.R_lt zad9)) (Kd.R_lt zad8)) (Kd.R_lt zad19)) (below_size zad1)); have n6_ := Aside0.mk (blk_below (g := gb729) (o := .cells #[.int .i64 a0_0, .int .i64 a0_1, .slice A0_2 l0_2.length c0_2] 24 (0, 0)) zad2 hb); have n7_ := Aside0.mk (blk_below (g := gb730) (o := .cells #[.int .i64 a1_0, .int .i64 a1_1] 26 (0, 0)) zad4 hb); have n8_ := Aside0.mk (blk_below (g := gb751) (o := .cells #[.int .i64 t746, .int .i64 t747, .slice Ao41 t748.length co41] 30 (0, 0)) zad7 hb); have n9_ := Aside0.mk (below_step zad1 hb); clear HO_8; clear HO_11; clear HO_12; clear HO_752002; clear HO766; clear BK729; clear BK730; clear BK751; clear HB; have HO_8 := n0_; have HO_11 := n1_; have HO_12 := n2_; have HO_752002 := n3_; have HO766 := n4_; have HO770 := n5_; have BK729 := n6_; have BK730 := n7_; have BK751 := n8_; have HB := n9_; clear n0_ n1_ n2_ n3_ n4_ n5_ n6_ n7_ n8_ n9_; (try clear hb); (try clear hb2); (try clear hk); (try clear hi); (try clear ho0); (try clear hna_); (try clear hnb_); obtain ⟨Ao119, co119, eo119⟩ := Kd.R_slice HO770.out; subst eo119) | ((with_reducible refine gate_callee (f := 21) rfl ?_); refine goesL_ (some 66) rfl rfl Try.func21 (by kernel_rfl) rfl #[.slice Ao45 t752.length co45, .slice Ao119 t768.length co119] rfl zad3 ?_; (with_reducible refine (laws_eqIntS.calls kj21 _ _ t752 _ _ t768 false _ ?side1 ?side2 ?side3 ?side4 A58.out).mono ?_); (case side1 => exact zad44); (case side2 => exact (Kd.R_reads' HO_11.out).2.1); (case side3 => exact zad46); (case side4 => exact (Kd.R_reads' HO770.out).2.1); rintro e w' ⟨rfl, ⟨nd, rfl⟩⟩; refine ⟨_, rfl, ?_⟩))
    go_ret
    exact ⟨zad17, zad1⟩
   subst c59
   have H1 : ((laws_markBoard.f kj21 t746 t747 t748 1).bind fun bt772 => ((laws_markIntS.f kj21 t752 bt772.1).bind fun bt774 => (if bt774.1 < 0 then (laws_FnExactReverseWalk.j1 kj21 l2 t742 t745 t757 true a0_0 a0_1 l0_2 a1_0 a1_1) else ((laws_eqIntS.f kj21 t757 t742).bind fun t776 => (if t776 = true then (laws_FnExactReverseWalk.j1 kj21 l2 t742 t745 t757 (t760 != t745) a0_0 a0_1 l0_2 a1_0 a1_1) else (laws_FnExactReverseWalk.j1 kj21 l2 t742 t745 t757 true a0_0 a0_1 l0_2 a1_0 a1_1)))))) = some r := by rw [if_pos rfl] at H; exact H
   clear H
   have H := H1
   clear H1
   replace H := Option.bind_eq_some_iff.mp H
   obtain ⟨⟨t772, t773⟩, A600, H⟩ := H
   replace H : ((laws_markIntS.f kj21 t752 t772).bind fun bt774 => (if bt774.1 < 0 then (laws_FnExactReverseWalk.j1 kj21 l2 t742 t745 t757 true a0_0 a0_1 l0_2 a1_0 a1_1) else ((laws_eqIntS.f kj21 t757 t742).bind fun t776 => (if t776 = true then (laws_FnExactReverseWalk.j1 kj21 l2 t742 t745 t757 (t760 != t745) a0_0 a0_1 l0_2 a1_0 a1_1) else (laws_FnExactReverseWalk.j1 kj21 l2 t742 t745 t757 true a0_0 a0_1 l0_2 a1_0 a1_1))))) = some r := H
   have A60 := Aside0.mk A600
   clear A600
   replace H := Option.bind_eq_some_iff.mp H
   obtain ⟨⟨t774, t775⟩, A610, H⟩ := H
   replace H : (if t774 < 0 then (laws_FnExactReverseWalk.j1 kj21 l2 t742 t745 t757 true a0_0 a0_1 l0_2 a1_0 a1_1) else ((laws_eqIntS.f kj21 t757 t742).bind fun t776 => (if t776 = true then (laws_FnExactReverseWalk.j1 kj21 l2 t742 t745 t757 (t760 != t745) a0_0 a0_1 l0_2 a1_0 a1_1) else (laws_FnExactReverseWalk.j1 kj21 l2 t742 t745 t757 true a0_0 a0_1 l0_2 a1_0 a1_1)))) = some r := H
   have A61 := Aside0.mk A610
   clear A610
   have HC62 := Aside0.mk H
   clear H
   try go_wp2
   have n0_ := Aside0.mk (Kd.R_drew HO_8.out)
   have n1_ := Aside0.mk (Kd.R_drew HO_11.out)
   have n2_ := Aside0.mk (Kd.R_drew HO_12.out)
   have n3_ := Aside0.mk (Kd.R_drew HO_752002.out)
   have n4_ := Aside0.mk (blk_drew BK729.out)
   have n5_ := Aside0.mk (blk_drew BK730.out)
   have n6_ := Aside0.mk (blk_drew BK751.out)
   have n7_ := Aside0.mk (below_drew1 HB.out)
   clear HO_8
   clear HO_11
   clear HO_12
   clear HO_752002
   clear BK729
   clear BK730
   clear BK751
   clear HB
   have HO_8 := n0_
   have HO_11 := n1_
   have HO_12 := n2_
   have HO_752002 := n3_
   have BK729 := n4_
   have BK730 := n5_
   have BK751 := n6_
   have HB := n7_
   clear n0_ n1_ n2_ n3_ n4_ n5_ n6_ n7_
   refine start_ (n := 5) (S := fun w' => w'.cell? ⟨gb751, 0, none⟩ = some (.int .i64 t746) ∧ w'.cell? ⟨gb751, 1, none⟩ = some (.int .i64 t747) ∧ w'.cell? ⟨gb751, 2, none⟩ = some (.slice Ao41 t748.length co41) ∧ w'.cell? ⟨gb729, 0, none⟩ = some (.int .i64 a0_0) ∧ w'.cell? ⟨gb729, 1, none⟩ = some (.int .i64 a0_1) ∧ w'.cell? ⟨gb729, 2, none⟩ = some (.slice A0_2 l0_2.length c0_2)) (ds := []) #[false, false, false, false, false] (by kernel_rfl) rfl rfl ⟨(blk_cell BK751.out 0).trans rfl, (blk_cell BK751.out 1).trans rfl, (blk_cell BK751.out 2).trans rfl, (blk_cell BK729.out 0).trans rfl, (blk_cell BK729.out 1).trans rfl, (blk_cell BK729.out 2).trans rfl⟩ (fun hHeld => ?_)
   generalize wc.drew = w63 at HO_8 HO_11 HO_12 HO_752002 BK729 BK730 BK751 HB hHeld ⊢
   refine take_ (i := 0) (N := some 58) (v := ?_) (a' := ?_) #[true, false, false, false, false] rfl rfl (by kernel_rfl) (fun _ _ _ h => h) (Or.inl ⟨by rfl, ?_⟩) hHeld ?_ ?_
   rotate_left
   ·rintro w' ⟨s0, s1, s2, s3, s4, s5⟩
    go_simp
    with_reducible rfl
   rotate_left
   ·simp only [Act.put, List.setIfInBounds_toArray, List.set_cons_zero, List.set_cons_succ, i64_w, i32_w]
    rfl
   refine take_ (i := 1) (N := some 59) (v := ?_) (a' := ?_) #[true, true, false, false, false] rfl rfl (by kernel_rfl) (fun _ _ _ h => h) (Or.inl ⟨by rfl, ?_⟩) hHeld ?_ ?_
   rotate_left
   ·rintro w' ⟨s0, s1, s2, s3, s4, s5⟩
    go_simp
    with_reducible rfl
   rotate_left
   ·simp only [Act.put, List.setIfInBounds_toArray, List.set_cons_zero, List.set_cons_succ, i64_w, i32_w]
    rfl
   refine one_ (i := 2) (N := some 60) #[true, true, true, false, false] rfl rfl (by kernel_rfl) (by decide) (fun K hK => ?_)
   refine goes_ Try.func17 (by kernel_rfl) rfl #[.agg #[.int .i64 a0_0, .int .i64 a0_1, .slice A0_2 l0_2.length c0_2]] (by rfl) rfl rfl zad3 ?_
   with_reducible refine (laws_toBoard.calls kj21 a0_0 a0_1 _ _ l0_2 t762 t763 t764 _ ?side1 ?side2 A54.out).mono ?_
   (case side1 => exact zad13)
   (case side2 => exact HC0_2.out)
   rintro e w64 ⟨v765, rfl, ho0, hb⟩
   refine ⟨_, rfl, ?_⟩
   have n0_ := Aside0.mk (Kd.R_elder' zad10 (Kd.R_base ho0) hb)
   have n1_ := Aside0.mk (Kd.R_elder' zad12 (Kd.R_base ho0) hb)
   have n2_ := Aside0.mk (Kd.R_elder' zad9 (Kd.R_base ho0) hb)
   have n3_ := Aside0.mk (Kd.R_elder' zad8 (Kd.R_base ho0) hb)
   have n4_ := Aside0.mk (Kd.R_lower (Kd.R_new' (Kd.R_new' (Kd.R_new' (Kd.R_new' ho0 (Kd.R_lt zad10)) (Kd.R_lt zad12)) (Kd.R_lt zad9)) (Kd.R_lt zad8)) (below_size zad1))
   have n5_ := Aside0.mk (blk_below (g := gb729) (o := .cells #[.int .i64 a0_0, .int .i64 a0_1, .slice A0_2 l0_2.length c0_2] 24 (0, 0)) zad2 hb)
   have n6_ := Aside0.mk (blk_below (g := gb730) (o := .cells #[.int .i64 a1_0, .int .i64 a1_1] 26 (0, 0)) zad4 hb)
   have n7_ := Aside0.mk (blk_below (g := gb751) (o := .cells #[.int .i64 t746, .int .i64 t747, .slice Ao41 t748.length co41] 30 (0, 0)) zad7 hb)
   have n8_ := Aside0.mk (below_step zad1 hb)
   clear HO_8
   clear HO_11
   clear HO_12
   clear HO_752002
   clear BK729
   clear BK730
   clear BK751
   clear HB
   have HO_8 := n0_
   have HO_11 := n1_
   have HO_12 := n2_
   have HO_752002 := n3_
   have HO766 := n4_
   have BK729 := n5_
   have BK730 := n6_
   have BK751 := n7_
   have HB := n8_
   clear n0_ n1_ n2_ n3_ n4_ n5_ n6_ n7_ n8_
   (try clear hb)
   (try clear hb2)
   (try clear hk)
   (try clear hi)
   (try clear ho0)
   (try clear hna_)
   (try clear hnb_)
   obtain ⟨Ao65, co65, eo65⟩ := Kd.R_slice HO766.out
   (first | subst eo65 | (injection eo65 with f1_ f2_ f3_; have f4_ := f1_.symm; have f5_ := f3_.symm; clear f1_ f2_ f3_; subst f4_; subst f5_))
   refine hK.out _ _ ⟨(blk_cell BK751.out 0).trans rfl, (blk_cell BK751.out 1).trans rfl, (blk_cell BK751.out 2).trans rfl, (blk_cell BK729.out 0).trans rfl, (blk_cell BK729.out 1).trans rfl, (blk_cell BK729.out 2).trans rfl⟩ (fun hHeld => ?_)
   clear hK K
   refine norm_ (a' := ?_) ?_ ?_
   rotate_left
   ·show Act.put _ (some 60) _ = _
    simp only [Act.put, List.setIfInBounds_toArray, List.set_cons_zero, List.set_cons_succ, i64_w, i32_w]
    rfl
   refine one_ (i := 3) (N := some 61) #[true, true, true, true, false] rfl rfl (by kernel_rfl) (by decide) (fun K hK => ?_)
   refine goes_ Try.func22 (by kernel_rfl) rfl #[.agg #[.int .i64 t746, .int .i64 t747, .slice Ao41 t748.length co41], .agg #[.int .i64 t762, .int .i64 t763, .slice Ao65 t764.length co65]] (by rfl) rfl rfl zad3 ?_
   with_reducible refine (laws_eqBoard.calls kj21 t746 t747 _ _ t748 t762 t763 _ _ t764 true _ ?side1 ?side2 ?side3 ?side4 A55.out).mono ?_
   (case side1 => exact zad29)
   (case side2 => exact (Kd.R_reads' HO_752002.out).2.1)
   (case side3 => exact zad30)
   (case side4 => exact (Kd.R_reads' HO766.out).2.1)
   rintro e w66 ⟨rfl, hb⟩
   refine ⟨_, rfl, ?_⟩
   have n0_ := Aside0.mk (Kd.R_below zad10 hb)
   have n1_ := Aside0.mk (Kd.R_below zad12 hb)
   have n2_ := Aside0.mk (Kd.R_below zad9 hb)
   have n3_ := Aside0.mk (Kd.R_below zad8 hb)
   have n4_ := Aside0.mk (Kd.R_below zad19 hb)
   have n5_ := Aside0.mk (blk_below (g := gb729) (o := .cells #[.int .i64 a0_0, .int .i64 a0_1, .slice A0_2 l0_2.length c0_2] 24 (0, 0)) zad2 hb)
   have n6_ := Aside0.mk (blk_below (g := gb730) (o := .cells #[.int .i64 a1_0, .int .i64 a1_1] 26 (0, 0)) zad4 hb)
   have n7_ := Aside0.mk (blk_below (g := gb751) (o := .cells #[.int .i64 t746, .int .i64 t747, .slice Ao41 t748.length co41] 30 (0, 0)) zad7 hb)
   have n8_ := Aside0.mk (below_step zad1 hb)
   clear HO_8
   clear HO_11
   clear HO_12
   clear HO_752002
   clear HO766
   clear BK729
   clear BK730
   clear BK751
   clear HB
   have HO_8 := n0_
   have HO_11 := n1_
   have HO_12 := n2_
   have HO_752002 := n3_
   have HO766 := n4_
   have BK729 := n5_
   have BK730 := n6_
   have BK751 := n7_
   have HB := n8_
   clear n0_ n1_ n2_ n3_ n4_ n5_ n6_ n7_ n8_
   (try clear hb)
   (try clear hb2)
   (try clear hk)
   (try clear hi)
   (try clear hna_)
   (try clear hnb_)
   refine hK.out _ _ ⟨(blk_cell BK751.out 0).trans rfl, (blk_cell BK751.out 1).trans rfl, (blk_cell BK751.out 2).trans rfl, (blk_cell BK729.out 0).trans rfl, (blk_cell BK729.out 1).trans rfl, (blk_cell BK729.out 2).trans rfl⟩ (fun hHeld => ?_)
   clear hK K
   refine norm_ (a' := ?_) ?_ ?_
   rotate_left
   ·show Act.put _ (some 61) _ = _
    simp only [Act.put, List.setIfInBounds_toArray, List.set_cons_zero, List.set_cons_succ, i64_w, i32_w]
    rfl
   refine pure_ (i := 4) (N := some 62) (v := ?_) (a' := ?_) #[true, true, true, true, true] rfl rfl (by kernel_rfl) (fun _ _ _ h => h) (Or.inl ⟨by rfl, ?_⟩) ?_ ?_
   rotate_left
   ·intro w'
    go_simp
    with_reducible rfl
   rotate_left
   ·simp only [Act.put, List.setIfInBounds_toArray, List.set_cons_zero, List.set_cons_succ, i64_w, i32_w]
    rfl
   refine done_ (by kernel_rfl) ?_
   go_upto_region 20 with (first | ((with_reducible refine gate_callee (f := 19) rfl ?_); refine goesL_ (some 65) rfl rfl Try.func19 (by kernel_rfl) rfl #[.slice A2 l2.length c2] rfl zad3 ?_; (with_reducible refine (laws_toIntS.calls kj21 _ _ l2 t768 _ ?side1 ?side2 A57.out).mono ?_); (case side1 => exact zad21); (case side2 => exact HC2.out); rintro e w67 ⟨v769, rfl, ho0, hb⟩; refine ⟨_, rfl, ?_⟩; have n0_ := Aside0.mk (Kd.R_elder' zad10 (Kd.R_base ho0) hb); have n1_ := Aside0.mk (Kd.R_elder' zad12 (Kd.R_base ho0) hb); have n2_ := Aside0.mk (Kd.R_elder' zad9 (Kd.R_base ho0) hb); have n3_ := Aside0.mk (Kd.R_elder' zad8 (Kd.R_base ho0) hb); have n4_ := Aside0.mk (Kd.R_elder' zad19 (Kd.R_base ho0) hb); have n5_ := Aside0.mk (Kd.R_lower (Kd.R_new' (Kd.R_new' (Kd.R_new' (Kd.R_new' (Kd.R_new' ho0 (Kd.R_lt zad10)) (Kd.R_lt zad12)) (Kd.R_lt zad9)) (Kd.R_lt zad8)) (Kd.R_lt zad19)) (below_size zad1)); have n6_ := Aside0.mk (blk_below (g := gb729) (o := .cells #[.int .i64 a0_0, .int .i64 a0_1, .slice A0_2 l0_2.length c0_2] 24 (0, 0)) zad2 hb); have n7_ := Aside0.mk (blk_below (g := gb730) (o := .cells #[.int .i64 a1_0, .int .i64 a1_1] 26 (0, 0)) zad4 hb); have n8_ := Aside0.mk (blk_below (g := gb751) (o := .cells #[.int .i64 t746, .int .i64 t747, .slice Ao41 t748.length co41] 30 (0, 0)) zad7 hb); have n9_ := Aside0.mk (below_step zad1 hb); clear HO_8; clear HO_11; clear HO_12; clear HO_752002; clear HO766; clear BK729; clear BK730; clear BK751; clear HB; have HO_8 := n0_; have HO_11 := n1_; have HO_12 := n2_; have HO_752002 := n3_; have HO766 := n4_; have HO770 := n5_; have BK729 := n6_; have BK730 := n7_; have BK751 := n8_; have HB := n9_; clear n0_ n1_ n2_ n3_ n4_ n5_ n6_ n7_ n8_ n9_; (try clear hb); (try clear hb2); (try clear hk); (try clear hi); (try clear ho0); (try clear hna_); (try clear hnb_); obtain ⟨Ao68, co68, eo68⟩ := Kd.R_slice HO770.out; subst eo68) | ((with_reducible refine gate_callee (f := 21) rfl ?_); refine goesL_ (some 66) rfl rfl Try.func21 (by kernel_rfl) rfl #[.slice Ao45 t752.length co45, .slice Ao68 t768.length co68] rfl zad3 ?_; (with_reducible refine (laws_eqIntS.calls kj21 _ _ t752 _ _ t768 true _ ?side1 ?side2 ?side3 ?side4 A58.out).mono ?_); (case side1 => exact zad44); (case side2 => exact (Kd.R_reads' HO_11.out).2.1); (case side3 => exact zad46); (case side4 => exact (Kd.R_reads' HO770.out).2.1); rintro e w' ⟨rfl, ⟨nd, rfl⟩⟩; refine ⟨_, rfl, ?_⟩; have hnb69 := NB751_729.out; have hnc69 := NB729_751.out; have hnb70 := NB751_730.out; have hnc70 := NB730_751.out; have hcz71_0 : w67.cell? ⟨gb751, 0, none⟩ = some (.int .i64 t746) := (blk_cell BK751.out 0).trans rfl; have hcz71_1 : w67.cell? ⟨gb751, 1, none⟩ = some (.int .i64 t747) := (blk_cell BK751.out 1).trans rfl; have hcz71_2 : w67.cell? ⟨gb751, 2, none⟩ = some (.slice Ao41 t748.length co41) := (blk_cell BK751.out 2).trans rfl; have hfz71_0 := blk_frozen BK751.out 0; have hfz71_1 := blk_frozen BK751.out 1; have hfz71_2 := blk_frozen BK751.out 2) | ((with_reducible refine gate_callee (f := 23) rfl ?_); refine goesL_ (some 70) rfl rfl Try.func23 (by kernel_rfl) rfl #[.agg #[.int .i64 t746, .int .i64 t747, .slice Ao41 t748.length co41], .int .i64 1] rfl zad3 ?_; (with_reducible refine (laws_markBoard.calls kj21 t746 t747 (fun k_ => some k_ = (.slice Ao41 t748.length co41 : Value).ownBlock) (.slice Ao41 t748.length co41) t748 1 t772 t773 w _ ?side1 ?side2 A60.out).mono ?_); (case side1 => exact zad1); (case side2 => exact Kd.R_tight rfl HO_752002.out); rintro e w72 ⟨rfl, hy0, hb, hkp⟩; refine ⟨_, rfl, ?_⟩; have n0_ := Aside0.mk (Kd.R_mono (ok' := fun k_ => some k_ ≠ (.slice Ao45 t752.length co45 : Value).ownBlock ∧ some k_ ≠ (v758 : Value).ownBlock ∧ some k_ ≠ (.slice Ao41 t748.length co41 : Value).ownBlock ∧ some k_ ≠ (.slice Ao65 t764.length co65 : Value).ownBlock ∧ some k_ ≠ (.slice Ao68 t768.length co68 : Value).ownBlock) (Kd.R_keptB (HO_8.out) hkp (fun k_ hk_ hs_ => (hk_.1.1.2.2) hs_)) (fun k_ hk_ => ⟨hk_.1.1.1.1, hk_.1.1.1.2.1, hk_.1.1.1.2.2, hk_.1.1.2, hk_.1.2⟩)); have n1_ := Aside0.mk (Kd.R_mono (ok' := fun k_ => some k_ ≠ (v743 : Value).ownBlock ∧ some k_ ≠ (v758 : Value).ownBlock ∧ some k_ ≠ (.slice Ao41 t748.length co41 : Value).ownBlock ∧ some k_ ≠ (.slice Ao65 t764.length co65 : Value).ownBlock ∧ some k_ ≠ (.slice Ao68 t768.length co68 : Value).ownBlock) (Kd.R_keptB (HO_11.out) hkp (fun k_ hk_ hs_ => (hk_.1.1.2.2) hs_)) (fun k_ hk_ => ⟨hk_.1.1.1.1, hk_.1.1.1.2.1, hk_.1.1.1.2.2, hk_.1.1.2, hk_.1.2⟩)); have n2_ := Aside0.mk (Kd.R_mono (ok' := fun k_ => some k_ ≠ (v743 : Value).ownBlock ∧ some k_ ≠ (.slice Ao45 t752.length co45 : Value).ownBlock ∧ some k_ ≠ (.slice Ao41 t748.length co41 : Value).ownBlock ∧ some k_ ≠ (.slice Ao65 t764.length co65 : Value).ownBlock ∧ some k_ ≠ (.slice Ao68 t768.length co68 : Value).ownBlock) (Kd.R_keptB (HO_12.out) hkp (fun k_ hk_ hs_ => (hk_.1.1.2.2) hs_)) (fun k_ hk_ => ⟨hk_.1.1.1.1, hk_.1.1.1.2.1, hk_.1.1.1.2.2, hk_.1.1.2, hk_.1.2⟩)); have n3_ := Aside0.mk (Kd.R_reok rfl hy0 (fun k_ e_ => HO_752002.out.1 k_ e_)); have n4_ := Aside0.mk (blk_kept zad2 hkp (fun hs_ => (fun e_ => (Kd.R_ne HO_752002.out BK729.out (by decide)) e_) hs_)); have n5_ := Aside0.mk (blk_kept zad4 hkp (fun hs_ => (fun e_ => (Kd.R_ne HO_752002.out BK730.out (by decide)) e_) hs_)); have n6_ := Aside0.mk (blk_kept zad7 hkp (fun hs_ => (fun e_ => (Kd.R_ne HO_752002.out BK751.out (by decide)) e_) hs_)); have n7_ := Aside0.mk (Kd.R_mono (ok' := fun k_ => some k_ ≠ (v743 : Value).ownBlock ∧ some k_ ≠ (.slice Ao45 t752.length co45 : Value).ownBlock ∧ some k_ ≠ (v758 : Value).ownBlock ∧ some k_ ≠ (.slice Ao41 t748.length co41 : Value).ownBlock ∧ some k_ ≠ (.slice Ao68 t768.length co68 : Value).ownBlock) (Kd.R_keptB (HO766.out) hkp (fun k_ hk_ hs_ => (hk_.1.2) hs_)) (fun k_ hk_ => ⟨hk_.1.1.1.1.1.2, hk_.1.1.1.1.2, hk_.1.1.1.2, hk_.1.1.2, hk_.1.2⟩)); have n8_ := Aside0.mk (Kd.R_mono (ok' := fun k_ => some k_ ≠ (v743 : Value).ownBlock ∧ some k_ ≠ (.slice Ao45 t752.length co45 : Value).ownBlock ∧ some k_ ≠ (v758 : Value).ownBlock ∧ some k_ ≠ (.slice Ao41 t748.length co41 : Value).ownBlock ∧ some k_ ≠ (.slice Ao65 t764.length co65 : Value).ownBlock) (Kd.R_keptB (HO770.out) hkp (fun k_ hk_ hs_ => (hk_.1.2) hs_)) (fun k_ hk_ => ⟨hk_.1.1.1.1.1.2, hk_.1.1.1.1.2, hk_.1.1.1.2, hk_.1.1.2, hk_.1.2⟩)); have n9_ := Aside0.mk (hb); clear HO_8; clear HO_11; clear HO_12; clear HO_752002; clear BK729; clear BK730; clear BK751; clear HO766; clear HO770; clear HB; have HO_8 := n0_; have HO_11 := n1_; have HO_12 := n2_; have HO_752002 := n3_; have BK729 := n4_; have BK730 := n5_; have BK751 := n6_; have HO766 := n7_; have HO770 := n8_; have HB := n9_; clear n0_ n1_ n2_ n3_ n4_ n5_ n6_ n7_ n8_ n9_; (try clear hb); (try clear hkp); (try clear hy0)) | ((with_reducible refine gate_callee (f := 24) rfl ?_); refine goesL_ (some 73) rfl rfl Try.func24 (by kernel_rfl) rfl #[.slice Ao45 t752.length co45, .int .i64 t772] rfl zad3 ?_; (with_reducible refine (laws_markIntS.calls kj21 (fun k_ => some k_ = (.slice Ao45 t752.length co45 : Value).ownBlock) (.slice Ao45 t752.length co45) t752 t772 t774 t775 w _ ?side1 ?side2 A61.out).mono ?_); (case side1 => exact zad1); (case side2 => exact Kd.R_tight rfl HO_11.out); rintro e w73 ⟨rfl, hy0, hb, hkp⟩; refine ⟨_, rfl, ?_⟩; have n0_ := Aside0.mk (Kd.R_mono (ok' := fun k_ => some k_ ≠ (.slice Ao45 t752.length co45 : Value).ownBlock ∧ some k_ ≠ (v758 : Value).ownBlock ∧ some k_ ≠ (.slice Ao41 t748.length co41 : Value).ownBlock ∧ some k_ ≠ (.slice Ao65 t764.length co65 : Value).ownBlock ∧ some k_ ≠ (.slice Ao68 t768.length co68 : Value).ownBlock) (Kd.R_keptB (HO_8.out) hkp (fun k_ hk_ hs_ => (hk_.1) hs_)) (fun k_ hk_ => ⟨hk_.1.1, hk_.1.2.1, hk_.1.2.2.1, hk_.1.2.2.2.1, hk_.1.2.2.2.2⟩)); have n1_ := Aside0.mk (Kd.R_reok rfl hy0 (fun k_ e_ => HO_11.out.1 k_ e_)); have n2_ := Aside0.mk (Kd.R_mono (ok' := fun k_ => some k_ ≠ (v743 : Value).ownBlock ∧ some k_ ≠ (.slice Ao45 t752.length co45 : Value).ownBlock ∧ some k_ ≠ (.slice Ao41 t748.length co41 : Value).ownBlock ∧ some k_ ≠ (.slice Ao65 t764.length co65 : Value).ownBlock ∧ some k_ ≠ (.slice Ao68 t768.length co68 : Value).ownBlock) (Kd.R_keptB (HO_12.out) hkp (fun k_ hk_ hs_ => (hk_.2.1) hs_)) (fun k_ hk_ => ⟨hk_.1.1, hk_.1.2.1, hk_.1.2.2.1, hk_.1.2.2.2.1, hk_.1.2.2.2.2⟩)); have n3_ := Aside0.mk (Kd.R_mono (ok' := fun k_ => some k_ ≠ (v743 : Value).ownBlock ∧ some k_ ≠ (.slice Ao45 t752.length co45 : Value).ownBlock ∧ some k_ ≠ (v758 : Value).ownBlock ∧ some k_ ≠ (.slice Ao65 t764.length co65 : Value).ownBlock ∧ some k_ ≠ (.slice Ao68 t768.length co68 : Value).ownBlock) (Kd.R_keptB (HO_752002.out) hkp (fun k_ hk_ hs_ => (hk_.1.1.2.1) hs_)) (fun k_ hk_ => ⟨hk_.1.1.1.1, hk_.1.1.1.2.1, hk_.1.1.1.2.2, hk_.1.1.2, hk_.1.2⟩)); have n4_ := Aside0.mk (blk_kept zad2 hkp (fun hs_ => (fun e_ => (Kd.R_ne HO_11.out BK729.out (by decide)) e_) hs_)); have n5_ := Aside0.mk (blk_kept zad4 hkp (fun hs_ => (fun e_ => (Kd.R_ne HO_11.out BK730.out (by decide)) e_) hs_)); have n6_ := Aside0.mk (blk_kept zad7 hkp (fun hs_ => (fun e_ => (Kd.R_ne HO_11.out BK751.out (by decide)) e_) hs_)); have n7_ := Aside0.mk (Kd.R_mono (ok' := fun k_ => some k_ ≠ (v743 : Value).ownBlock ∧ some k_ ≠ (.slice Ao45 t752.length co45 : Value).ownBlock ∧ some k_ ≠ (v758 : Value).ownBlock ∧ some k_ ≠ (.slice Ao41 t748.length co41 : Value).ownBlock ∧ some k_ ≠ (.slice Ao68 t768.length co68 : Value).ownBlock) (Kd.R_keptB (HO766.out) hkp (fun k_ hk_ hs_ => (hk_.2.1) hs_)) (fun k_ hk_ => ⟨hk_.1.1, hk_.1.2.1, hk_.1.2.2.1, hk_.1.2.2.2.1, hk_.1.2.2.2.2⟩)); have n8_ := Aside0.mk (Kd.R_mono (ok' := fun k_ => some k_ ≠ (v743 : Value).ownBlock ∧ some k_ ≠ (.slice Ao45 t752.length co45 : Value).ownBlock ∧ some k_ ≠ (v758 : Value).ownBlock ∧ some k_ ≠ (.slice Ao41 t748.length co41 : Value).ownBlock ∧ some k_ ≠ (.slice Ao65 t764.length co65 : Value).ownBlock) (Kd.R_keptB (HO770.out) hkp (fun k_ hk_ hs_ => (hk_.2.1) hs_)) (fun k_ hk_ => ⟨hk_.1.1, hk_.1.2.1, hk_.1.2.2.1, hk_.1.2.2.2.1, hk_.1.2.2.2.2⟩)); have n9_ := Aside0.mk (hb); clear HO_8; clear HO_11; clear HO_12; clear HO_752002; clear BK729; clear BK730; clear BK751; clear HO766; clear HO770; clear HB; have HO_8 := n0_; have HO_11 := n1_; have HO_12 := n2_; have HO_752002 := n3_; have BK729 := n4_; have BK730 := n5_; have BK751 := n6_; have HO766 := n7_; have HO770 := n8_; have HB := n9_; clear n0_ n1_ n2_ n3_ n4_ n5_ n6_ n7_ n8_ n9_; (try clear hb); (try clear hkp); (try clear hy0)))
   (try simp only [Act.put, List.setIfInBounds_toArray, List.set_cons_zero, List.set_cons_succ])
   go_cut [86] (fun v86 wc => ∃ (kq : Nat) (x86_61 : Bool), v86 = .bool x86_61 ∧ Aside0 (laws_FnExactReverseWalk.j1 kq l2 t742 t745 t757 x86_61 a0_0 a0_1 l0_2 a1_0 a1_1 = some r) ∧ Aside0 (kq ≤ kj21) ∧ Aside0 (Kd.R (Kd.int .i64) 3 wc w.heap.size (fun k_ => some k_ ≠ (v758 : Value).ownBlock ∧ some k_ ≠ ((.slice Ao41 t748.length co41) : Value).ownBlock) v743 t742) ∧ Aside0 (Kd.R (Kd.int .i64) 3 wc w.heap.size (fun k_ => some k_ ≠ (v743 : Value).ownBlock ∧ some k_ ≠ ((.slice Ao41 t748.length co41) : Value).ownBlock) v758 t757) ∧ Aside0 (Kd.R (Kd.int .i64) 3 wc w.heap.size (fun k_ => some k_ ≠ (v743 : Value).ownBlock ∧ some k_ ≠ (v758 : Value).ownBlock) (.slice Ao41 t748.length co41) t773) ∧ Aside0 (wc.heap[gb729]? = some (.cells #[.int .i64 a0_0, .int .i64 a0_1, (.slice A0_2 l0_2.length c0_2)] 24 (0, 0))) ∧ Aside0 (wc.heap[gb730]? = some (.cells #[.int .i64 a1_0, .int .i64 a1_1] 26 (0, 0))) ∧ Aside0 (wc.heap[gb751]? = some (.cells #[.int .i64 t746, .int .i64 t747, (.slice Ao41 t748.length co41)] 30 (0, 0))) ∧ Aside0 (Below w.heap.size w wc))
   case first =>
    have H := HC62.out
    clear HC62
    by_cases c74 : t774 < 0
    ·rw [if_pos c74] at H
     have c74b0 : decide (t774 < 0) = true := decide_eq_true c74
     clear c74
     (first | rw [c74b0] | (simp only [i64_w, i32_w]; rw [c74b0]) | skip)
     have H' := Aside0.mk H
     clear H
     go_wp2
     go_meet
     case rel => exact ⟨_, (true), zad35, H', ⟨by have := HJ21.out; first | omega | exact Nat.le_refl _⟩, ⟨zad33⟩, ⟨zad34⟩, ⟨zad32⟩, ⟨zad2⟩, ⟨zad4⟩, ⟨zad7⟩, ⟨zad1⟩⟩
    rw [if_neg c74] at H
    have c74b0 : decide (t774 < 0) = false := decide_eq_false c74
    clear c74
    (first | rw [c74b0] | (simp only [i64_w, i32_w]; rw [c74b0]) | skip)
    replace H := Option.bind_eq_some_iff.mp H
    obtain ⟨t776, A750, H⟩ := H
    replace H : (if t776 = true then (laws_FnExactReverseWalk.j1 kj21 l2 t742 t745 t757 (t760 != t745) a0_0 a0_1 l0_2 a1_0 a1_1) else (laws_FnExactReverseWalk.j1 kj21 l2 t742 t745 t757 true a0_0 a0_1 l0_2 a1_0 a1_1)) = some r := H
    have A75 := Aside0.mk A750
    clear A750
    by_cases c76 : t776 = true
    ·subst c76
     have H1 : (laws_FnExactReverseWalk.j1 kj21 l2 t742 t745 t757 (t760 != t745) a0_0 a0_1 l0_2 a1_0 a1_1) = some r := by rw [if_pos rfl] at H; exact H
     clear H
     have H := H1
     clear H1
     have H' := Aside0.mk H
     clear H
     obtain ⟨Ao77, co77, eo77⟩ := Kd.R_slice HO_12.out
     subst eo77
     obtain ⟨Ao78, co78, eo78⟩ := Kd.R_slice HO_8.out
     subst eo78
     go_wp2_with (first | (go_at_call 21; (with_reducible refine (laws_eqIntS.calls kj21 _ _ t757 _ _ t742 true _ ?side1 ?side2 ?side3 ?side4 A75.out).mono ?_); (case side1 => exact zad14); (case side2 => exact (Kd.R_reads' HO_12.out).2.1); (case side3 => exact zad22); (case side4 => exact (Kd.R_reads' HO_8.out).2.1); rintro e w' ⟨rfl, ⟨nd, rfl⟩⟩))
     go_meet
     case rel => exact ⟨_, ((t760 != t745)), zad35, H', ⟨by have := HJ21.out; first | omega | exact Nat.le_refl _⟩, ⟨zad33⟩, ⟨zad34⟩, ⟨zad32⟩, ⟨zad2⟩, ⟨zad4⟩, ⟨zad7⟩, ⟨zad1⟩⟩
    replace c76 := Bool.eq_false_iff.mpr c76
    subst c76
    have H1 : (laws_FnExactReverseWalk.j1 kj21 l2 t742 t745 t757 true a0_0 a0_1 l0_2 a1_0 a1_1) = some r := by rw [if_neg (show ¬ (false = true) by decide)] at H; exact H
    clear H
    have H := H1
    clear H1
    have H' := Aside0.mk H
    clear H
    obtain ⟨Ao79, co79, eo79⟩ := Kd.R_slice HO_12.out
    subst eo79
    obtain ⟨Ao80, co80, eo80⟩ := Kd.R_slice HO_8.out
    subst eo80
    go_wp2_with (first | (go_at_call 21; (with_reducible refine (laws_eqIntS.calls kj21 _ _ t757 _ _ t742 false _ ?side1 ?side2 ?side3 ?side4 A75.out).mono ?_); (case side1 => exact zad14); (case side2 => exact (Kd.R_reads' HO_12.out).2.1); (case side3 => exact zad22); (case side4 => exact (Kd.R_reads' HO_8.out).2.1); rintro e w' ⟨rfl, ⟨nd, rfl⟩⟩))
    go_meet
    case rel => exact ⟨_, (true), zad35, H', ⟨by have := HJ21.out; first | omega | exact Nat.le_refl _⟩, ⟨zad33⟩, ⟨zad34⟩, ⟨zad32⟩, ⟨zad2⟩, ⟨zad4⟩, ⟨zad7⟩, ⟨zad1⟩⟩
   case rest =>
    clear HC62
    try clear c1; try clear c2; try clear p2; try clear c3; try clear c4; try clear c4b0; try clear c4b1; try clear c5; try clear c6; try clear c7; try clear c8; try clear c8b0; try clear c11; try clear c15; try clear c17; try clear c18; try clear c19; try clear c21; try clear c22; try clear c23; try clear c24; try clear c25; try clear c32; try clear c33; try clear c38; try clear c39; try clear c48; try clear c53; try clear c56; try clear c59; try clear c69; try clear c70; try clear c74; try clear c74b0; try clear c76; try clear hcz12_0; try clear hcz12_1; try clear hcz12_2; try clear hcz26_0; try clear hcz26_1
    try clear hcz26_2; try clear hcz35_0; try clear hcz35_1; try clear hcz35_2; try clear hcz40_0; try clear hcz40_1; try clear hcz40_2; try clear hcz71_0; try clear hcz71_1; try clear hcz71_2; try clear hfz12_0; try clear hfz12_1; try clear hfz12_2; try clear hfz26_0; try clear hfz26_1; try clear hfz26_2; try clear hfz35_0; try clear hfz35_1; try clear hfz35_2; try clear hfz40_0; try clear hfz40_1; try clear hfz40_2; try clear hfz71_0; try clear hfz71_1; try clear hfz71_2; try clear p2
    obtain ⟨kq, x86_61, rfl, HA, HJ61, HO_8, HO_12, HO_752002, BK729, BK730, BK751, HB⟩ := hcut
    have hl752002_61 := (Kd.R_reads' HO_752002.out).1
    rw [hl752002_61] at HO_752002
    (try simp only [hl752002_61])
    (try simp only [hl752002_61] at BK729)
    (try simp only [hl752002_61] at BK730)
    (try simp only [hl752002_61] at BK751)
    (try simp only [hl752002_61] at HO_8)
    (try simp only [hl752002_61] at HO_12)
    cases kq with
    | zero => exact absurd HA.out (by simp [laws_FnExactReverseWalk.j1])
    | succ kj61 =>
     have H := HA.out
     clear HA
     simp only [laws_FnExactReverseWalk.j1] at H
     by_cases c81 : x86_61 = true
     ·subst c81
      have H1 : (some false) = some r := by rw [if_pos rfl] at H; exact H
      clear H
      have H := H1
      clear H1
      obtain rfl := Option.some.inj H
      go_wp2
      go_ret
      exact ⟨zad17, zad1⟩
     replace c81 := Bool.eq_false_iff.mpr c81
     subst c81
     have H1 : ((laws_markIntS.f kj61 t757 1).bind fun bt777 => ((laws_heldIntS.f kj61 bt777.2 1).bind fun t779 => (if t779 < 0 then (some false) else (if t779 = bt777.1 then ((laws_toBoard.f kj61 a0_0 a0_1 l0_2).bind fun bt780 => ((laws_toLeaper.f a1_0 a1_1).bind fun bt785 => ((laws_toIntS.f kj61 l2).bind fun t787 => ((impl_ReverseWalk.f kj61 bt780.1 bt780.2.1 bt780.2.2 bt785.1 bt785.2 t787).bind fun bt790 => ((laws_eqIntS.f kj61 bt790.1 t742).bind fun t794 => (if t794 = true then (laws_FnExactReverseWalk.j2 kj61 bt777.2 bt777.1 (bt790.2 != t745)) else (laws_FnExactReverseWalk.j2 kj61 bt777.2 bt777.1 true))))))) else (some false))))) = some r := by rw [if_neg (show ¬ (false = true) by decide)] at H; exact H
     clear H
     have H := H1
     clear H1
     replace H := Option.bind_eq_some_iff.mp H
     obtain ⟨⟨t777, t778⟩, A820, H⟩ := H
     replace H : ((laws_heldIntS.f kj61 t778 1).bind fun t779 => (if t779 < 0 then (some false) else (if t779 = t777 then ((laws_toBoard.f kj61 a0_0 a0_1 l0_2).bind fun bt780 => ((laws_toLeaper.f a1_0 a1_1).bind fun bt785 => ((laws_toIntS.f kj61 l2).bind fun t787 => ((impl_ReverseWalk.f kj61 bt780.1 bt780.2.1 bt780.2.2 bt785.1 bt785.2 t787).bind fun bt790 => ((laws_eqIntS.f kj61 bt790.1 t742).bind fun t794 => (if t794 = true then (laws_FnExactReverseWalk.j2 kj61 t778 t777 (bt790.2 != t745)) else (laws_FnExactReverseWalk.j2 kj61 t778 t777 true))))))) else (some false)))) = some r := H
     have A82 := Aside0.mk A820
     clear A820
     replace H := Option.bind_eq_some_iff.mp H
     obtain ⟨t779, A830, H⟩ := H
     replace H : (if t779 < 0 then (some false) else (if t779 = t777 then ((laws_toBoard.f kj61 a0_0 a0_1 l0_2).bind fun bt780 => ((laws_toLeaper.f a1_0 a1_1).bind fun bt785 => ((laws_toIntS.f kj61 l2).bind fun t787 => ((impl_ReverseWalk.f kj61 bt780.1 bt780.2.1 bt780.2.2 bt785.1 bt785.2 t787).bind fun bt790 => ((laws_eqIntS.f kj61 bt790.1 t742).bind fun t794 => (if t794 = true then (laws_FnExactReverseWalk.j2 kj61 t778 t777 (bt790.2 != t745)) else (laws_FnExactReverseWalk.j2 kj61 t778 t777 true))))))) else (some false))) = some r := H
     have A83 := Aside0.mk A830
     clear A830
     by_cases c84 : t779 < 0
     ·rw [if_pos c84] at H
      have c84b0 : decide (t779 < 0) = true := decide_eq_true c84
      clear c84
      obtain rfl := Option.some.inj H
      obtain ⟨Ao85, co85, eo85⟩ := Kd.R_slice HO_12.out
      subst eo85
      go_wp2_with (first | ((with_reducible refine gate_callee (f := 24) rfl ?_); refine goesL_ (some 89) rfl rfl Try.func24 (by kernel_rfl) rfl #[.slice Ao85 t757.length co85, .int .i64 1] rfl zad3 ?_; (with_reducible refine (laws_markIntS.calls kj61 (fun k_ => some k_ = (.slice Ao85 t757.length co85 : Value).ownBlock) (.slice Ao85 t757.length co85) t757 1 t777 t778 w _ ?side1 ?side2 A82.out).mono ?_); (case side1 => exact zad1); (case side2 => exact Kd.R_tight rfl HO_12.out); rintro e w86 ⟨rfl, hy0, hb, hkp⟩; refine ⟨_, rfl, ?_⟩; have n0_ := Aside0.mk (Kd.R_mono (ok' := fun k_ => some k_ ≠ (.slice Ao85 t757.length co85 : Value).ownBlock ∧ some k_ ≠ (.slice Ao41 t773.length co41 : Value).ownBlock) (Kd.R_keptB (HO_8.out) hkp (fun k_ hk_ hs_ => (hk_.1) hs_)) (fun k_ hk_ => ⟨hk_.1.1, hk_.1.2⟩)); have n1_ := Aside0.mk (Kd.R_reok rfl hy0 (fun k_ e_ => HO_12.out.1 k_ e_)); have n2_ := Aside0.mk (Kd.R_mono (ok' := fun k_ => some k_ ≠ (v743 : Value).ownBlock ∧ some k_ ≠ (.slice Ao85 t757.length co85 : Value).ownBlock) (Kd.R_keptB (HO_752002.out) hkp (fun k_ hk_ hs_ => (hk_.2) hs_)) (fun k_ hk_ => ⟨hk_.1.1, hk_.1.2⟩)); have n3_ := Aside0.mk (blk_kept zad2 hkp (fun hs_ => (fun e_ => (Kd.R_ne HO_12.out BK729.out (by decide)) e_) hs_)); have n4_ := Aside0.mk (blk_kept zad4 hkp (fun hs_ => (fun e_ => (Kd.R_ne HO_12.out BK730.out (by decide)) e_) hs_)); have n5_ := Aside0.mk (blk_kept zad7 hkp (fun hs_ => (fun e_ => (Kd.R_ne HO_12.out BK751.out (by decide)) e_) hs_)); have n6_ := Aside0.mk (hb); clear HO_8; clear HO_12; clear HO_752002; clear BK729; clear BK730; clear BK751; clear HB; have HO_8 := n0_; have HO_12 := n1_; have HO_752002 := n2_; have BK729 := n3_; have BK730 := n4_; have BK751 := n5_; have HB := n6_; clear n0_ n1_ n2_ n3_ n4_ n5_ n6_; (try clear hb); (try clear hkp); (try clear hy0)) | ((with_reducible refine gate_callee (f := 25) rfl ?_); refine goesL_ (some 92) rfl rfl Try.func25 (by kernel_rfl) rfl #[.slice Ao85 t778.length co85, .int .i64 1] rfl zad23 ?_; (with_reducible refine (laws_heldIntS.calls kj61 _ _ t778 1 t779 _ ?side1 ?side2 A83.out).mono ?_); (case side1 => exact zad14); (case side2 => exact zad37); rintro e w' ⟨rfl, ⟨nd, rfl⟩⟩; refine ⟨_, rfl, ?_⟩))
      go_ret
      exact ⟨zad17, zad1⟩
     rw [if_neg c84] at H
     have c84b0 : decide (t779 < 0) = false := decide_eq_false c84
     clear c84
     by_cases c87 : t779 = t777
     rotate_left
     ·rw [if_neg c87] at H
      have c87b0 : (t779 == t777) = false := beq_eq_false_iff_ne.mpr c87
      have c87b1 : (t779 != t777) = true := bne_iff_ne.mpr c87
      obtain rfl := Option.some.inj H
      obtain ⟨Ao112, co112, eo112⟩ := Kd.R_slice HO_12.out
      subst eo112
      go_wp2_with (first | ((with_reducible refine gate_callee (f := 24) rfl ?_); refine goesL_ (some 89) rfl rfl Try.func24 (by kernel_rfl) rfl #[.slice Ao112 t757.length co112, .int .i64 1] rfl zad3 ?_; (with_reducible refine (laws_markIntS.calls kj61 (fun k_ => some k_ = (.slice Ao112 t757.length co112 : Value).ownBlock) (.slice Ao112 t757.length co112) t757 1 t777 t778 w _ ?side1 ?side2 A82.out).mono ?_); (case side1 => exact zad1); (case side2 => exact Kd.R_tight rfl HO_12.out); rintro e w113 ⟨rfl, hy0, hb, hkp⟩; refine ⟨_, rfl, ?_⟩; have n0_ := Aside0.mk (Kd.R_mono (ok' := fun k_ => some k_ ≠ (.slice Ao112 t757.length co112 : Value).ownBlock ∧ some k_ ≠ (.slice Ao41 t773.length co41 : Value).ownBlock) (Kd.R_keptB (HO_8.out) hkp (fun k_ hk_ hs_ => (hk_.1) hs_)) (fun k_ hk_ => ⟨hk_.1.1, hk_.1.2⟩)); have n1_ := Aside0.mk (Kd.R_reok rfl hy0 (fun k_ e_ => HO_12.out.1 k_ e_)); have n2_ := Aside0.mk (Kd.R_mono (ok' := fun k_ => some k_ ≠ (v743 : Value).ownBlock ∧ some k_ ≠ (.slice Ao112 t757.length co112 : Value).ownBlock) (Kd.R_keptB (HO_752002.out) hkp (fun k_ hk_ hs_ => (hk_.2) hs_)) (fun k_ hk_ => ⟨hk_.1.1, hk_.1.2⟩)); have n3_ := Aside0.mk (blk_kept zad2 hkp (fun hs_ => (fun e_ => (Kd.R_ne HO_12.out BK729.out (by decide)) e_) hs_)); have n4_ := Aside0.mk (blk_kept zad4 hkp (fun hs_ => (fun e_ => (Kd.R_ne HO_12.out BK730.out (by decide)) e_) hs_)); have n5_ := Aside0.mk (blk_kept zad7 hkp (fun hs_ => (fun e_ => (Kd.R_ne HO_12.out BK751.out (by decide)) e_) hs_)); have n6_ := Aside0.mk (hb); clear HO_8; clear HO_12; clear HO_752002; clear BK729; clear BK730; clear BK751; clear HB; have HO_8 := n0_; have HO_12 := n1_; have HO_752002 := n2_; have BK729 := n3_; have BK730 := n4_; have BK751 := n5_; have HB := n6_; clear n0_ n1_ n2_ n3_ n4_ n5_ n6_; (try clear hb); (try clear hkp); (try clear hy0)) | ((with_reducible refine gate_callee (f := 25) rfl ?_); refine goesL_ (some 92) rfl rfl Try.func25 (by kernel_rfl) rfl #[.slice Ao112 t778.length co112, .int .i64 1] rfl zad23 ?_; (with_reducible refine (laws_heldIntS.calls kj61 _ _ t778 1 t779 _ ?side1 ?side2 A83.out).mono ?_); (case side1 => exact zad14); (case side2 => exact zad37); rintro e w' ⟨rfl, ⟨nd, rfl⟩⟩; refine ⟨_, rfl, ?_⟩))
      go_ret
      exact ⟨zad17, zad1⟩
     rw [if_pos c87] at H
     have c87b0 : (t779 == t777) = true := beq_iff_eq.mpr c87
     have c87b1 : (t779 != t777) = false := bne_eq_false_iff_eq.mpr c87
     clear c87
     replace H := Option.bind_eq_some_iff.mp H
     obtain ⟨⟨t780, t781, t782⟩, A880, H⟩ := H
     replace H : ((laws_toLeaper.f a1_0 a1_1).bind fun bt785 => ((laws_toIntS.f kj61 l2).bind fun t787 => ((impl_ReverseWalk.f kj61 t780 t781 t782 bt785.1 bt785.2 t787).bind fun bt790 => ((laws_eqIntS.f kj61 bt790.1 t742).bind fun t794 => (if t794 = true then (laws_FnExactReverseWalk.j2 kj61 t778 t777 (bt790.2 != t745)) else (laws_FnExactReverseWalk.j2 kj61 t778 t777 true)))))) = some r := H
     have A88 := Aside0.mk A880
     clear A880
     replace H := Option.bind_eq_some_iff.mp H
     obtain ⟨⟨t785, t786⟩, A890, H⟩ := H
     replace H : ((laws_toIntS.f kj61 l2).bind fun t787 => ((impl_ReverseWalk.f kj61 t780 t781 t782 t785 t786 t787).bind fun bt790 => ((laws_eqIntS.f kj61 bt790.1 t742).bind fun t794 => (if t794 = true then (laws_FnExactReverseWalk.j2 kj61 t778 t777 (bt790.2 != t745)) else (laws_FnExactReverseWalk.j2 kj61 t778 t777 true))))) = some r := H
     have A89 := Aside0.mk A890
     clear A890
     replace H := Option.bind_eq_some_iff.mp H
     obtain ⟨t787, A900, H⟩ := H
     replace H : ((impl_ReverseWalk.f kj61 t780 t781 t782 t785 t786 t787).bind fun bt790 => ((laws_eqIntS.f kj61 bt790.1 t742).bind fun t794 => (if t794 = true then (laws_FnExactReverseWalk.j2 kj61 t778 t777 (bt790.2 != t745)) else (laws_FnExactReverseWalk.j2 kj61 t778 t777 true)))) = some r := H
     have A90 := Aside0.mk A900
     clear A900
     replace H := Option.bind_eq_some_iff.mp H
     obtain ⟨⟨t790, t793⟩, A910, H⟩ := H
     replace H : ((laws_eqIntS.f kj61 t790 t742).bind fun t794 => (if t794 = true then (laws_FnExactReverseWalk.j2 kj61 t778 t777 (t793 != t745)) else (laws_FnExactReverseWalk.j2 kj61 t778 t777 true))) = some r := H
     have A91 := Aside0.mk A910
     clear A910
     have HC92 := Aside0.mk H
     clear H
     obtain ⟨Ao93, co93, eo93⟩ := Kd.R_slice HO_12.out
     subst eo93
     try go_wp2_with (first | ((with_reducible refine gate_callee (f := 24) rfl ?_); refine goesL_ (some 89) rfl rfl Try.func24 (by kernel_rfl) rfl #[.slice Ao93 t757.length co93, .int .i64 1] rfl zad3 ?_; (with_reducible refine (laws_markIntS.calls kj61 (fun k_ => some k_ = (.slice Ao93 t757.length co93 : Value).ownBlock) (.slice Ao93 t757.length co93) t757 1 t777 t778 w _ ?side1 ?side2 A82.out).mono ?_); (case side1 => exact zad1); (case side2 => exact Kd.R_tight rfl HO_12.out); rintro e w94 ⟨rfl, hy0, hb, hkp⟩; refine ⟨_, rfl, ?_⟩; have n0_ := Aside0.mk (Kd.R_mono (ok' := fun k_ => some k_ ≠ (.slice Ao93 t757.length co93 : Value).ownBlock ∧ some k_ ≠ (.slice Ao41 t773.length co41 : Value).ownBlock) (Kd.R_keptB (HO_8.out) hkp (fun k_ hk_ hs_ => (hk_.1) hs_)) (fun k_ hk_ => ⟨hk_.1.1, hk_.1.2⟩)); have n1_ := Aside0.mk (Kd.R_reok rfl hy0 (fun k_ e_ => HO_12.out.1 k_ e_)); have n2_ := Aside0.mk (Kd.R_mono (ok' := fun k_ => some k_ ≠ (v743 : Value).ownBlock ∧ some k_ ≠ (.slice Ao93 t757.length co93 : Value).ownBlock) (Kd.R_keptB (HO_752002.out) hkp (fun k_ hk_ hs_ => (hk_.2) hs_)) (fun k_ hk_ => ⟨hk_.1.1, hk_.1.2⟩)); have n3_ := Aside0.mk (blk_kept zad2 hkp (fun hs_ => (fun e_ => (Kd.R_ne HO_12.out BK729.out (by decide)) e_) hs_)); have n4_ := Aside0.mk (blk_kept zad4 hkp (fun hs_ => (fun e_ => (Kd.R_ne HO_12.out BK730.out (by decide)) e_) hs_)); have n5_ := Aside0.mk (blk_kept zad7 hkp (fun hs_ => (fun e_ => (Kd.R_ne HO_12.out BK751.out (by decide)) e_) hs_)); have n6_ := Aside0.mk (hb); clear HO_8; clear HO_12; clear HO_752002; clear BK729; clear BK730; clear BK751; clear HB; have HO_8 := n0_; have HO_12 := n1_; have HO_752002 := n2_; have BK729 := n3_; have BK730 := n4_; have BK751 := n5_; have HB := n6_; clear n0_ n1_ n2_ n3_ n4_ n5_ n6_; (try clear hb); (try clear hkp); (try clear hy0)) | ((with_reducible refine gate_callee (f := 25) rfl ?_); refine goesL_ (some 92) rfl rfl Try.func25 (by kernel_rfl) rfl #[.slice Ao93 t778.length co93, .int .i64 1] rfl zad23 ?_; (with_reducible refine (laws_heldIntS.calls kj61 _ _ t778 1 t779 _ ?side1 ?side2 A83.out).mono ?_); (case side1 => exact zad14); (case side2 => exact zad37); rintro e w' ⟨rfl, ⟨nd, rfl⟩⟩; refine ⟨_, rfl, ?_⟩))
     (try (rw [drewN_self w94]; generalize hq_ : World.drewN w94 _ = w94; have n0_ : Aside0 (Kd.R (Kd.int .i64) 3 w94 w.heap.size (fun k_ => (some k_ ≠ (v743 : Value).ownBlock ∧ some k_ ≠ (.slice Ao41 t773.length co41 : Value).ownBlock)) (.slice Ao93 t757.length co93) t778) := ⟨by rw [← hq_]; exact zad9⟩; have n1_ : Aside0 (Kd.R (Kd.int .i64) 3 w94 w.heap.size (fun k_ => (some k_ ≠ (v743 : Value).ownBlock ∧ some k_ ≠ (.slice Ao93 t757.length co93 : Value).ownBlock)) (.slice Ao41 t773.length co41) t773) := ⟨by rw [← hq_]; exact zad8⟩; have n2_ : Aside0 (Kd.R (Kd.int .i64) 3 w94 w.heap.size (fun k_ => (some k_ ≠ (.slice Ao93 t757.length co93 : Value).ownBlock ∧ some k_ ≠ (.slice Ao41 t773.length co41 : Value).ownBlock)) v743 t742) := ⟨by rw [← hq_]; exact zad10⟩; have n3_ : Aside0 (w94.heap[gb729]? = some (.cells #[.int .i64 a0_0, .int .i64 a0_1, .slice A0_2 l0_2.length c0_2] 24 (0, 0))) := ⟨by rw [← hq_]; exact zad2⟩; have n4_ : Aside0 (w94.heap[gb730]? = some (.cells #[.int .i64 a1_0, .int .i64 a1_1] 26 (0, 0))) := ⟨by rw [← hq_]; exact zad4⟩; have n5_ : Aside0 (w94.heap[gb751]? = some (.cells #[.int .i64 t746, .int .i64 t747, .slice Ao41 t773.length co41] 30 (0, 0))) := ⟨by rw [← hq_]; exact zad7⟩; have n6_ : Aside0 (Below w.heap.size w w94) := ⟨by rw [← hq_]; exact zad1⟩; clear HO_12 HO_752002 HO_8 BK729 BK730 BK751 HB hq_; have HO_12 := n0_; have HO_752002 := n1_; have HO_8 := n2_; have BK729 := n3_; have BK730 := n4_; have BK751 := n5_; have HB := n6_; clear n0_ n1_ n2_ n3_ n4_ n5_ n6_))
     have n0_ := Aside0.mk (Kd.R_drew HO_8.out)
     have n1_ := Aside0.mk (Kd.R_drew HO_12.out)
     have n2_ := Aside0.mk (Kd.R_drew HO_752002.out)
     have n3_ := Aside0.mk (blk_drew BK729.out)
     have n4_ := Aside0.mk (blk_drew BK730.out)
     have n5_ := Aside0.mk (blk_drew BK751.out)
     have n6_ := Aside0.mk (below_drew1 HB.out)
     clear HO_8
     clear HO_12
     clear HO_752002
     clear BK729
     clear BK730
     clear BK751
     clear HB
     have HO_8 := n0_
     have HO_12 := n1_
     have HO_752002 := n2_
     have BK729 := n3_
     have BK730 := n4_
     have BK751 := n5_
     have HB := n6_
     clear n0_ n1_ n2_ n3_ n4_ n5_ n6_
     refine start_ (n := 12) (S := fun w' => w'.cell? ⟨gb729, 0, none⟩ = some (.int .i64 a0_0) ∧ w'.cell? ⟨gb729, 1, none⟩ = some (.int .i64 a0_1) ∧ w'.cell? ⟨gb729, 2, none⟩ = some (.slice A0_2 l0_2.length c0_2) ∧ w'.cell? ⟨gb730, 0, none⟩ = some (.int .i64 a1_0) ∧ w'.cell? ⟨gb730, 1, none⟩ = some (.int .i64 a1_1)) (ds := []) #[false, false, false, false, false, false, false, false, false, false, false, false] (by kernel_rfl) rfl rfl ⟨(blk_cell BK729.out 0).trans rfl, (blk_cell BK729.out 1).trans rfl, (blk_cell BK729.out 2).trans rfl, (blk_cell BK730.out 0).trans rfl, (blk_cell BK730.out 1).trans rfl⟩ (fun hHeld => ?_); refine with_tabW laws_FnExactReverseWalk.tab30 laws_FnExactReverseWalk.bits30 (fun HT_ HW_ => ?_)
     generalize w94.drew = w95 at HO_8 HO_12 HO_752002 BK729 BK730 BK751 HB hHeld ⊢
     refine pure_ (i := 4) (N := some 103) (v := ?_) (a' := ?_) #[false, false, false, false, true, false, false, false, false, false, false, false] rfl rfl (any_of HT_.out (by kernel_rfl)) (fun _ _ _ h => h) (Or.inl ⟨by rfl, ?_⟩) ?_ ?_
     rotate_left
     ·intro w'
      go_simp
      with_reducible rfl
     rotate_left
     ·simp only [Act.put, List.setIfInBounds_toArray, List.set_cons_zero, List.set_cons_succ, i64_w, i32_w]
      rfl
     refine take_ (i := 0) (N := some 99) (v := ?_) (a' := ?_) #[true, false, false, false, true, false, false, false, false, false, false, false] rfl rfl (take_ofW HT_.out HW_.out (by kernel_rfl)) (fun _ _ _ h => h) (Or.inl ⟨by rfl, ?_⟩) hHeld ?_ ?_
     rotate_left
     ·rintro w' ⟨s0, s1, s2, s3, s4⟩
      go_simp
      with_reducible rfl
     rotate_left
     ·simp only [Act.put, List.setIfInBounds_toArray, List.set_cons_zero, List.set_cons_succ, i64_w, i32_w]
      rfl
     refine take_ (i := 2) (N := some 101) (v := ?_) (a' := ?_) #[true, false, true, false, true, false, false, false, false, false, false, false] rfl rfl (take_ofW HT_.out HW_.out (by kernel_rfl)) (fun _ _ _ h => h) (Or.inl ⟨by rfl, ?_⟩) hHeld ?_ ?_
     rotate_left
     ·rintro w' ⟨s0, s1, s2, s3, s4⟩
      go_simp
      with_reducible rfl
     rotate_left
     ·simp only [Act.put, List.setIfInBounds_toArray, List.set_cons_zero, List.set_cons_succ, i64_w, i32_w]
      rfl
     refine one_ (i := 1) (N := some 100) #[true, true, true, false, true, false, false, false, false, false, false, false] rfl rfl (one_of HT_.out (by kernel_rfl)) (by decide) (fun K hK => ?_)
     refine goes_ Try.func17 (by kernel_rfl) rfl #[.agg #[.int .i64 a0_0, .int .i64 a0_1, .slice A0_2 l0_2.length c0_2]] (by rfl) rfl rfl zad3 ?_
     with_reducible refine (laws_toBoard.calls kj61 a0_0 a0_1 _ _ l0_2 t780 t781 t782 _ ?side1 ?side2 A88.out).mono ?_
     (case side1 => exact zad13)
     (case side2 => exact HC0_2.out)
     rintro e w96 ⟨v783, rfl, ho0, hb⟩
     refine ⟨_, rfl, ?_⟩
     have n0_ := Aside0.mk (Kd.R_elder' zad10 (Kd.R_base ho0) hb)
     have n1_ := Aside0.mk (Kd.R_elder' zad9 (Kd.R_base ho0) hb)
     have n2_ := Aside0.mk (Kd.R_elder' zad8 (Kd.R_base ho0) hb)
     have n3_ := Aside0.mk (Kd.R_lower (Kd.R_new' (Kd.R_new' (Kd.R_new' ho0 (Kd.R_lt zad10)) (Kd.R_lt zad9)) (Kd.R_lt zad8)) (below_size zad1))
     have n4_ := Aside0.mk (blk_below (g := gb729) (o := .cells #[.int .i64 a0_0, .int .i64 a0_1, .slice A0_2 l0_2.length c0_2] 24 (0, 0)) zad2 hb)
     have n5_ := Aside0.mk (blk_below (g := gb730) (o := .cells #[.int .i64 a1_0, .int .i64 a1_1] 26 (0, 0)) zad4 hb)
     have n6_ := Aside0.mk (blk_below (g := gb751) (o := .cells #[.int .i64 t746, .int .i64 t747, .slice Ao41 t773.length co41] 30 (0, 0)) zad7 hb)
     have n7_ := Aside0.mk (below_step zad1 hb)
     clear HO_8
     clear HO_12
     clear HO_752002
     clear BK729
     clear BK730
     clear BK751
     clear HB
     have HO_8 := n0_
     have HO_12 := n1_
     have HO_752002 := n2_
     have HO784 := n3_
     have BK729 := n4_
     have BK730 := n5_
     have BK751 := n6_
     have HB := n7_
     clear n0_ n1_ n2_ n3_ n4_ n5_ n6_ n7_
     (try clear hb)
     (try clear hb2)
     (try clear hk)
     (try clear hi)
     (try clear ho0)
     (try clear hna_)
     (try clear hnb_)
     refine hK.out _ _ ⟨(blk_cell BK729.out 0).trans rfl, (blk_cell BK729.out 1).trans rfl, (blk_cell BK729.out 2).trans rfl, (blk_cell BK730.out 0).trans rfl, (blk_cell BK730.out 1).trans rfl⟩ (fun hHeld => ?_)
     clear hK K
     refine norm_ (a' := ?_) ?_ ?_
     rotate_left
     ·show Act.put _ (some 100) _ = _
      simp only [Act.put, List.setIfInBounds_toArray, List.set_cons_zero, List.set_cons_succ, i64_w, i32_w]
      rfl
     refine one_ (i := 3) (N := some 102) #[true, true, true, true, true, false, false, false, false, false, false, false] rfl rfl (one_of HT_.out (by kernel_rfl)) (by decide) (fun K hK => ?_)
     refine goes_ Try.func18 (by kernel_rfl) rfl #[.agg #[.int .i64 a1_0, .int .i64 a1_1]] (by rfl) rfl rfl zad3 ?_
     with_reducible refine (laws_toLeaper.calls a1_0 a1_1 t785 t786 _ A89.out).mono ?_
     rintro e w97 ⟨rfl, hb⟩
     refine ⟨_, rfl, ?_⟩
     have n0_ := Aside0.mk (Kd.R_below zad10 hb)
     have n1_ := Aside0.mk (Kd.R_below zad9 hb)
     have n2_ := Aside0.mk (Kd.R_below zad8 hb)
     have n3_ := Aside0.mk (Kd.R_below zad28 hb)
     have n4_ := Aside0.mk (blk_below (g := gb729) (o := .cells #[.int .i64 a0_0, .int .i64 a0_1, .slice A0_2 l0_2.length c0_2] 24 (0, 0)) zad2 hb)
     have n5_ := Aside0.mk (blk_below (g := gb730) (o := .cells #[.int .i64 a1_0, .int .i64 a1_1] 26 (0, 0)) zad4 hb)
     have n6_ := Aside0.mk (blk_below (g := gb751) (o := .cells #[.int .i64 t746, .int .i64 t747, .slice Ao41 t773.length co41] 30 (0, 0)) zad7 hb)
     have n7_ := Aside0.mk (below_step zad1 hb)
     clear HO_8
     clear HO_12
     clear HO_752002
     clear HO784
     clear BK729
     clear BK730
     clear BK751
     clear HB
     have HO_8 := n0_
     have HO_12 := n1_
     have HO_752002 := n2_
     have HO784 := n3_
     have BK729 := n4_
     have BK730 := n5_
     have BK751 := n6_
     have HB := n7_
     clear n0_ n1_ n2_ n3_ n4_ n5_ n6_ n7_
     (try clear hb)
     (try clear hb2)
     (try clear hk)
     (try clear hi)
     (try clear hna_)
     (try clear hnb_)
     refine hK.out _ _ ⟨(blk_cell BK729.out 0).trans rfl, (blk_cell BK729.out 1).trans rfl, (blk_cell BK729.out 2).trans rfl, (blk_cell BK730.out 0).trans rfl, (blk_cell BK730.out 1).trans rfl⟩ (fun hHeld => ?_)
     clear hK K
     refine norm_ (a' := ?_) ?_ ?_
     rotate_left
     ·show Act.put _ (some 102) _ = _
      simp only [Act.put, List.setIfInBounds_toArray, List.set_cons_zero, List.set_cons_succ, i64_w, i32_w]
      rfl
     refine one_ (i := 5) (N := some 104) #[true, true, true, true, true, true, false, false, false, false, false, false] rfl rfl (one_of HT_.out (by kernel_rfl)) (by decide) (fun K hK => ?_)
     refine goes_ Try.func19 (by kernel_rfl) rfl #[.slice A2 l2.length c2] (by rfl) rfl rfl zad3 ?_
     with_reducible refine (laws_toIntS.calls kj61 _ _ l2 t787 _ ?side1 ?side2 A90.out).mono ?_
     (case side1 => exact zad21)
     (case side2 => exact HC2.out)
     rintro e w98 ⟨v788, rfl, ho0, hb⟩
     refine ⟨_, rfl, ?_⟩
     have n0_ := Aside0.mk (Kd.R_elder' zad10 (Kd.R_base ho0) hb)
     have n1_ := Aside0.mk (Kd.R_elder' zad9 (Kd.R_base ho0) hb)
     have n2_ := Aside0.mk (Kd.R_elder' zad8 (Kd.R_base ho0) hb)
     have n3_ := Aside0.mk (Kd.R_elder' zad28 (Kd.R_base ho0) hb)
     have n4_ := Aside0.mk (Kd.R_lower (Kd.R_new' (Kd.R_new' (Kd.R_new' (Kd.R_new' ho0 (Kd.R_lt zad10)) (Kd.R_lt zad9)) (Kd.R_lt zad8)) (Kd.R_lt zad28)) (below_size zad1))
     have n5_ := Aside0.mk (blk_below (g := gb729) (o := .cells #[.int .i64 a0_0, .int .i64 a0_1, .slice A0_2 l0_2.length c0_2] 24 (0, 0)) zad2 hb)
     have n6_ := Aside0.mk (blk_below (g := gb730) (o := .cells #[.int .i64 a1_0, .int .i64 a1_1] 26 (0, 0)) zad4 hb)
     have n7_ := Aside0.mk (blk_below (g := gb751) (o := .cells #[.int .i64 t746, .int .i64 t747, .slice Ao41 t773.length co41] 30 (0, 0)) zad7 hb)
     have n8_ := Aside0.mk (below_step zad1 hb)
     clear HO_8
     clear HO_12
     clear HO_752002
     clear HO784
     clear BK729
     clear BK730
     clear BK751
     clear HB
     have HO_8 := n0_
     have HO_12 := n1_
     have HO_752002 := n2_
     have HO784 := n3_
     have HO789 := n4_
     have BK729 := n5_
     have BK730 := n6_
     have BK751 := n7_
     have HB := n8_
     clear n0_ n1_ n2_ n3_ n4_ n5_ n6_ n7_ n8_
     (try clear hb)
     (try clear hb2)
     (try clear hk)
     (try clear hi)
     (try clear ho0)
     (try clear hna_)
     (try clear hnb_)
     obtain ⟨Ao99, co99, eo99⟩ := Kd.R_slice HO784.out
     (first | subst eo99 | (injection eo99 with f1_ f2_ f3_; have f4_ := f1_.symm; have f5_ := f3_.symm; clear f1_ f2_ f3_; subst f4_; subst f5_))
     obtain ⟨Ao100, co100, eo100⟩ := Kd.R_slice HO789.out
     (first | subst eo100 | (injection eo100 with f1_ f2_ f3_; have f4_ := f1_.symm; have f5_ := f3_.symm; clear f1_ f2_ f3_; subst f4_; subst f5_))
     refine hK.out _ _ ⟨(blk_cell BK729.out 0).trans rfl, (blk_cell BK729.out 1).trans rfl, (blk_cell BK729.out 2).trans rfl, (blk_cell BK730.out 0).trans rfl, (blk_cell BK730.out 1).trans rfl⟩ (fun hHeld => ?_)
     clear hK K
     refine norm_ (a' := ?_) ?_ ?_
     rotate_left
     ·show Act.put _ (some 104) _ = _
      simp only [Act.put, List.setIfInBounds_toArray, List.set_cons_zero, List.set_cons_succ, i64_w, i32_w]
      rfl
     refine one_ (i := 6) (N := some 105) #[true, true, true, true, true, true, true, false, false, false, false, false] rfl rfl (one_of HT_.out (by kernel_rfl)) (by decide) (fun K hK => ?_)
     refine goes_ Try.func33 (by kernel_rfl) rfl #[.agg #[.int .i64 t780, .int .i64 t781, .slice Ao99 t782.length co99], .agg #[.int .i64 t785, .int .i64 t786], .slice Ao100 t787.length co100] (by rfl) rfl rfl zad3 ?_
     with_reducible refine (impl_ReverseWalk.calls kj61 t780 t781 _ _ t782 t785 t786 _ _ t787 t790 t793 _ ?side1 ?side2 ?side3 ?side4 A91.out).mono ?_
     (case side1 => repeat (first | exact (Kd.R_reads' HO784.out).2.2 | (with_reducible refine Kd.C_alloc ?_ _) | (with_reducible refine Kd.C_drewN ?_ _) | (with_reducible refine Kd.C_drew ?_)))
     (case side2 => exact (Kd.R_reads' HO784.out).2.1)
     (case side3 => repeat (first | exact (Kd.R_reads' HO789.out).2.2 | (with_reducible refine Kd.C_alloc ?_ _) | (with_reducible refine Kd.C_drewN ?_ _) | (with_reducible refine Kd.C_drew ?_)))
     (case side4 => exact (Kd.R_reads' HO789.out).2.1)
     rintro e w101 ⟨v791, rfl, ho0, hb⟩
     refine ⟨_, rfl, ?_⟩
     have n0_ := Aside0.mk (Kd.R_elder' zad10 (Kd.R_base ho0) hb)
     have n1_ := Aside0.mk (Kd.R_elder' zad9 (Kd.R_base ho0) hb)
     have n2_ := Aside0.mk (Kd.R_elder' zad8 (Kd.R_base ho0) hb)
     have n3_ := Aside0.mk (Kd.R_elder' zad28 (Kd.R_base ho0) hb)
     have n4_ := Aside0.mk (Kd.R_elder' (by (with_reducible repeat (first | apply Kd.R_alloc | apply Kd.R_drewN | apply Kd.R_drew)); exact HO789.out) (Kd.R_base ho0) hb)
     have n5_ := Aside0.mk (Kd.R_lower (Kd.R_new' (Kd.R_new' (Kd.R_new' (Kd.R_new' (Kd.R_new' ho0 (Kd.R_lt zad10)) (Kd.R_lt zad9)) (Kd.R_lt zad8)) (Kd.R_lt zad28)) (Kd.R_lt (by (with_reducible repeat (first | apply Kd.R_alloc | apply Kd.R_drewN | apply Kd.R_drew)); exact HO789.out))) (below_size zad1))
     have n6_ := Aside0.mk (blk_below (g := gb729) (o := .cells #[.int .i64 a0_0, .int .i64 a0_1, .slice A0_2 l0_2.length c0_2] 24 (0, 0)) zad2 hb)
     have n7_ := Aside0.mk (blk_below (g := gb730) (o := .cells #[.int .i64 a1_0, .int .i64 a1_1] 26 (0, 0)) zad4 hb)
     have n8_ := Aside0.mk (blk_below (g := gb751) (o := .cells #[.int .i64 t746, .int .i64 t747, .slice Ao41 t773.length co41] 30 (0, 0)) zad7 hb)
     have n9_ := Aside0.mk (below_step zad1 hb)
     clear HO_8
     clear HO_12
     clear HO_752002
     clear HO784
     clear HO789
     clear BK729
     clear BK730
     clear BK751
     clear HB
     have HO_8 := n0_
     have HO_12 := n1_
     have HO_752002 := n2_
     have HO784 := n3_
     have HO789 := n4_
     have HO792 := n5_
     have BK729 := n6_
     have BK730 := n7_
     have BK751 := n8_
     have HB := n9_
     clear n0_ n1_ n2_ n3_ n4_ n5_ n6_ n7_ n8_ n9_
     (try clear hb)
     (try clear hb2)
     (try clear hk)
     (try clear hi)
     (try clear ho0)
     (try clear hna_)
     (try clear hnb_)
     refine hK.out _ _ ⟨(blk_cell BK729.out 0).trans rfl, (blk_cell BK729.out 1).trans rfl, (blk_cell BK729.out 2).trans rfl, (blk_cell BK730.out 0).trans rfl, (blk_cell BK730.out 1).trans rfl⟩ (fun hHeld => ?_)
     clear hK K
     refine norm_ (a' := ?_) ?_ ?_
     rotate_left
     ·show Act.put _ (some 105) _ = _
      simp only [Act.put, List.setIfInBounds_toArray, List.set_cons_zero, List.set_cons_succ, i64_w, i32_w]
      rfl
     refine pure_ (i := 7) (N := some 98) (v := ?_) (a' := ?_) #[true, true, true, true, true, true, true, true, false, false, false, false] rfl rfl (any_of HT_.out (by kernel_rfl)) (fun _ _ _ h => h) (Or.inl ⟨by rfl, ?_⟩) ?_ ?_
     rotate_left
     ·intro w'
      go_simp
      with_reducible rfl
     rotate_left
     ·simp only [Act.put, List.setIfInBounds_toArray, List.set_cons_zero, List.set_cons_succ, i64_w, i32_w]
      rfl
     refine pure_ (i := 8) (N := some 106) (v := ?_) (a' := ?_) #[true, true, true, true, true, true, true, true, true, false, false, false] rfl rfl (any_of HT_.out (by kernel_rfl)) (fun _ _ _ h => h) (Or.inl ⟨by rfl, ?_⟩) ?_ ?_
     rotate_left
     ·intro w'
      go_simp
      with_reducible rfl
     rotate_left
     ·simp only [Act.put, List.setIfInBounds_toArray, List.set_cons_zero, List.set_cons_succ, i64_w, i32_w]
      rfl
     refine pure_ (i := 9) (N := some 107) (v := ?_) (a' := ?_) #[true, true, true, true, true, true, true, true, true, true, false, false] rfl rfl (any_of HT_.out (by kernel_rfl)) (fun _ _ _ h => h) (Or.inl ⟨by rfl, ?_⟩) ?_ ?_
     rotate_left
     ·intro w'
      go_simp
      with_reducible rfl
     rotate_left
     ·simp only [Act.put, List.setIfInBounds_toArray, List.set_cons_zero, List.set_cons_succ, i64_w, i32_w]
      rfl
     refine pure_ (i := 10) (N := some 17) (v := ?_) (a' := ?_) #[true, true, true, true, true, true, true, true, true, true, true, false] rfl rfl (any_of HT_.out (by kernel_rfl)) (fun _ _ _ h => h) (Or.inl ⟨by rfl, ?_⟩) ?_ ?_
     rotate_left
     ·intro w'
      go_simp
      with_reducible rfl
     rotate_left
     ·simp only [Act.put, List.setIfInBounds_toArray, List.set_cons_zero, List.set_cons_succ, i64_w, i32_w]
      rfl
     refine pure_ (i := 11) (N := some 18) (v := ?_) (a' := ?_) #[true, true, true, true, true, true, true, true, true, true, true, true] rfl rfl (any_of HT_.out (by kernel_rfl)) (fun _ _ _ h => h) (Or.inl ⟨by rfl, ?_⟩) ?_ ?_
     rotate_left
     ·intro w'
      go_simp
      with_reducible rfl
     rotate_left
     ·simp only [Act.put, List.setIfInBounds_toArray, List.set_cons_zero, List.set_cons_succ, i64_w, i32_w]
      rfl
     refine done_ (done_of HT_.out (by kernel_rfl)) ?_
     go_upto_region 31 with (fail)
     go_cut [116] (fun v116 wc => ∃ (kq : Nat) (x116_91 : Bool), v116 = .bool x116_91 ∧ Aside0 (laws_FnExactReverseWalk.j2 kq t778 t777 x116_91 = some r) ∧ Aside0 (kq ≤ kj61) ∧ Aside0 (Kd.R (Kd.int .i64) 3 wc w.heap.size (fun k_ => some k_ ≠ ((.slice Ao41 t773.length co41) : Value).ownBlock) (.slice Ao93 t757.length co93) t778) ∧ Aside0 (Kd.R (Kd.int .i64) 3 wc w.heap.size (fun k_ => some k_ ≠ ((.slice Ao93 t757.length co93) : Value).ownBlock) (.slice Ao41 t773.length co41) t773) ∧ Aside0 (wc.heap[gb729]? = some (.cells #[.int .i64 a0_0, .int .i64 a0_1, (.slice A0_2 l0_2.length c0_2)] 24 (0, 0))) ∧ Aside0 (wc.heap[gb730]? = some (.cells #[.int .i64 a1_0, .int .i64 a1_1] 26 (0, 0))) ∧ Aside0 (wc.heap[gb751]? = some (.cells #[.int .i64 t746, .int .i64 t747, (.slice Ao41 t773.length co41)] 30 (0, 0))) ∧ Aside0 (Below w.heap.size w wc))
     case first =>
      have H := HC92.out
      clear HC92
      replace H := Option.bind_eq_some_iff.mp H
      obtain ⟨t794, A1020, H⟩ := H
      replace H : (if t794 = true then (laws_FnExactReverseWalk.j2 kj61 t778 t777 (t793 != t745)) else (laws_FnExactReverseWalk.j2 kj61 t778 t777 true)) = some r := H
      have A102 := Aside0.mk A1020
      clear A1020
      by_cases c103 : t794 = true
      ·subst c103
       have H1 : (laws_FnExactReverseWalk.j2 kj61 t778 t777 (t793 != t745)) = some r := by rw [if_pos rfl] at H; exact H
       clear H
       have H := H1
       clear H1
       have H' := Aside0.mk H
       clear H
       obtain ⟨Ao104, co104, eo104⟩ := Kd.R_slice HO792.out
       subst eo104
       obtain ⟨Ao105, co105, eo105⟩ := Kd.R_slice HO_8.out
       subst eo105
       go_wp2_with (first | ((with_reducible refine gate_callee (f := 21) rfl ?_); refine goesL_ (some 110) rfl rfl Try.func21 (by kernel_rfl) rfl #[.slice Ao104 t790.length co104, .slice Ao105 t742.length co105] rfl zad3 ?_; (with_reducible refine (laws_eqIntS.calls kj61 _ _ t790 _ _ t742 true _ ?side1 ?side2 ?side3 ?side4 A102.out).mono ?_); (case side1 => exact zad45); (case side2 => exact (Kd.R_reads' HO792.out).2.1); (case side3 => exact zad22); (case side4 => exact (Kd.R_reads' HO_8.out).2.1); rintro e w' ⟨rfl, ⟨nd, rfl⟩⟩; refine ⟨_, rfl, ?_⟩))
       go_meet
       case rel => exact ⟨_, ((t793 != t745)), zad35, H', ⟨by have := HJ21.out; have := HJ61.out; first | omega | exact Nat.le_refl _⟩, ⟨zad39⟩, ⟨zad38⟩, ⟨zad51⟩, ⟨zad50⟩, ⟨zad49⟩, ⟨zad1⟩⟩
      replace c103 := Bool.eq_false_iff.mpr c103
      subst c103
      have H1 : (laws_FnExactReverseWalk.j2 kj61 t778 t777 true) = some r := by rw [if_neg (show ¬ (false = true) by decide)] at H; exact H
      clear H
      have H := H1
      clear H1
      have H' := Aside0.mk H
      clear H
      obtain ⟨Ao106, co106, eo106⟩ := Kd.R_slice HO792.out
      subst eo106
      obtain ⟨Ao107, co107, eo107⟩ := Kd.R_slice HO_8.out
      subst eo107
      go_wp2_with (first | ((with_reducible refine gate_callee (f := 21) rfl ?_); refine goesL_ (some 110) rfl rfl Try.func21 (by kernel_rfl) rfl #[.slice Ao106 t790.length co106, .slice Ao107 t742.length co107] rfl zad3 ?_; (with_reducible refine (laws_eqIntS.calls kj61 _ _ t790 _ _ t742 false _ ?side1 ?side2 ?side3 ?side4 A102.out).mono ?_); (case side1 => exact zad45); (case side2 => exact (Kd.R_reads' HO792.out).2.1); (case side3 => exact zad22); (case side4 => exact (Kd.R_reads' HO_8.out).2.1); rintro e w' ⟨rfl, ⟨nd, rfl⟩⟩; refine ⟨_, rfl, ?_⟩))
      go_meet
      case rel => exact ⟨_, (true), zad35, H', ⟨by have := HJ21.out; have := HJ61.out; first | omega | exact Nat.le_refl _⟩, ⟨zad39⟩, ⟨zad38⟩, ⟨zad51⟩, ⟨zad50⟩, ⟨zad49⟩, ⟨zad1⟩⟩
     case rest =>
      clear HC92
      try clear c1; try clear c2; try clear p2; try clear c3; try clear c4; try clear c4b0; try clear c4b1; try clear c5; try clear c6; try clear c7; try clear c8; try clear c8b0; try clear c10; try clear c11; try clear c15; try clear c17; try clear c18; try clear c19; try clear c21; try clear c22; try clear c23; try clear c24; try clear c25; try clear c32; try clear c33; try clear c38; try clear c39; try clear c48; try clear c53; try clear c56; try clear c59; try clear c69; try clear c70; try clear c74; try clear c74b0; try clear c76; try clear c81; try clear c84; try clear c84b0; try clear c87; try clear c87b0
      try clear c87b1; try clear c103; try clear hcz12_0; try clear hcz12_1; try clear hcz12_2; try clear hcz26_0; try clear hcz26_1; try clear hcz26_2; try clear hcz35_0; try clear hcz35_1; try clear hcz35_2; try clear hcz40_0; try clear hcz40_1; try clear hcz40_2; try clear hcz71_0; try clear hcz71_1; try clear hcz71_2; try clear hfz12_0; try clear hfz12_1; try clear hfz12_2; try clear hfz26_0; try clear hfz26_1; try clear hfz26_2; try clear hfz35_0; try clear hfz35_1; try clear hfz35_2; try clear hfz40_0; try clear hfz40_1; try clear hfz40_2; try clear hfz71_0; try clear hfz71_1; try clear hfz71_2
      try clear p2
      obtain ⟨kq, x116_91, rfl, HA, HJ91, HO_12, HO_752002, BK729, BK730, BK751, HB⟩ := hcut
      have hl12_91 := (Kd.R_reads' HO_12.out).1
      rw [hl12_91] at HO_12
      (try simp only [hl12_91])
      (try simp only [hl12_91] at BK729)
      (try simp only [hl12_91] at BK730)
      (try simp only [hl12_91] at BK751)
      (try simp only [hl12_91] at HO_752002)
      cases kq with
      | zero => exact absurd HA.out (by simp [laws_FnExactReverseWalk.j2])
      | succ kj91 =>
       have H := HA.out
       clear HA
       simp only [laws_FnExactReverseWalk.j2] at H
       by_cases c108 : x116_91 = true
       ·subst c108
        have H1 : (some false) = some r := by rw [if_pos rfl] at H; exact H
        clear H
        have H := H1
        clear H1
        obtain rfl := Option.some.inj H
        go_wp2
        go_ret
        exact ⟨zad17, zad1⟩
       replace c108 := Bool.eq_false_iff.mpr c108
       subst c108
       have H1 : ((laws_heldIntS.f kj91 t778 1).bind fun t795 => (if t795 < 0 then (some false) else (if t795 = t777 then (some true) else (some false)))) = some r := by rw [if_neg (show ¬ (false = true) by decide)] at H; exact H
       clear H
       have H := H1
       clear H1
       replace H := Option.bind_eq_some_iff.mp H
       obtain ⟨t795, A1090, H⟩ := H
       replace H : (if t795 < 0 then (some false) else (if t795 = t777 then (some true) else (some false))) = some r := H
       have A109 := Aside0.mk A1090
       clear A1090
       by_cases c110 : t795 < 0
       ·rw [if_pos c110] at H
        have c110b0 : decide (t795 < 0) = true := decide_eq_true c110
        clear c110
        obtain rfl := Option.some.inj H
        go_wp2_with (first | ((with_reducible refine gate_callee (f := 25) rfl ?_); refine goesL_ (some 119) rfl rfl Try.func25 (by kernel_rfl) rfl #[.slice Ao93 t778.length co93, .int .i64 1] rfl zad3 ?_; (with_reducible refine (laws_heldIntS.calls kj91 _ _ t778 1 t795 _ ?side1 ?side2 A109.out).mono ?_); (case side1 => exact zad14); (case side2 => exact (Kd.R_reads' HO_12.out).2.1); rintro e w' ⟨rfl, ⟨nd, rfl⟩⟩; refine ⟨_, rfl, ?_⟩))
        go_ret
        exact ⟨zad17, zad1⟩
       rw [if_neg c110] at H
       have c110b0 : decide (t795 < 0) = false := decide_eq_false c110
       clear c110
       by_cases c111 : t795 = t777
       rotate_left
       ·rw [if_neg c111] at H
        have c111b0 : (t795 == t777) = false := beq_eq_false_iff_ne.mpr c111
        have c111b1 : (t795 != t777) = true := bne_iff_ne.mpr c111
        obtain rfl := Option.some.inj H
        go_wp2_with (first | ((with_reducible refine gate_callee (f := 25) rfl ?_); refine goesL_ (some 119) rfl rfl Try.func25 (by kernel_rfl) rfl #[.slice Ao93 t778.length co93, .int .i64 1] rfl zad3 ?_; (with_reducible refine (laws_heldIntS.calls kj91 _ _ t778 1 t795 _ ?side1 ?side2 A109.out).mono ?_); (case side1 => exact zad14); (case side2 => exact (Kd.R_reads' HO_12.out).2.1); rintro e w' ⟨rfl, ⟨nd, rfl⟩⟩; refine ⟨_, rfl, ?_⟩))
        go_ret
        exact ⟨zad17, zad1⟩
       rw [if_pos c111] at H
       have c111b0 : (t795 == t777) = true := beq_iff_eq.mpr c111
       have c111b1 : (t795 != t777) = false := bne_eq_false_iff_eq.mpr c111
       clear c111
       obtain rfl := Option.some.inj H
       go_wp2_with (first | ((with_reducible refine gate_callee (f := 25) rfl ?_); refine goesL_ (some 119) rfl rfl Try.func25 (by kernel_rfl) rfl #[.slice Ao93 t778.length co93, .int .i64 1] rfl zad3 ?_; (with_reducible refine (laws_heldIntS.calls kj91 _ _ t778 1 t795 _ ?side1 ?side2 A109.out).mono ?_); (case side1 => exact zad14); (case side2 => exact (Kd.R_reads' HO_12.out).2.1); rintro e w' ⟨rfl, ⟨nd, rfl⟩⟩; refine ⟨_, rfl, ?_⟩))
       go_ret
       exact ⟨zad17, zad1⟩

end Go.Proofs.Ytjeongckkfkehaa.Q

/- Written by a program of this session: functions of the translation as plain Lean functions, each with a proof that the call does what the plain function says; the conditions stand in each theorem. -/
import Derived.Test.YtjeongckkfkehaaQ0
import Derived.Test.YtjeongckkfkehaaQ1
import Derived.Test.YtjeongckkfkehaaQ2
import Derived.Test.YtjeongckkfkehaaQ5
import Derived.Test.YtjeongckkfkehaaQ11
import Derived.Test.YtjeongckkfkehaaQ20
namespace Go.Proofs.Ytjeongckkfkehaa.Q
open Go.RowKit Go.Proofs.YtjeongckkfkehaaW.PrintWords Go.Proofs.YtjeongckkfkehaaW.PrintLast Go.Proofs.YtjeongckkfkehaaW.PrintMore
attribute [local go_sem] max2_int min2_int max_two min_two max_three min_three max_four min_four   -- for this text's walks alone
set_option linter.unusedVariables false
set_option linter.unusedSimpArgs false

theorem zv1 {p : Prop} (h : p := by repeat (first | (with_reducible first | exact HB.out | apply below_alloc | apply pw_below_drewN | apply below_drew1 | refine below_set ?_ GE511.out | refine below_set ?_ GE512.out | refine below_set ?_ GE533.out) | exact HB.out)) : p := h
theorem zv2 {p : Prop} (h : p := by (with_reducible repeat (first | refine blk_drewN ?_ _ | refine blk_drew ?_ | refine blk_alloc ?_ _)); exact BK511.out) : p := h
theorem zv3 {p : Prop} (h : p := by (try simp only [List.map_toArray, List.map_cons, List.map_nil]); first | done | rfl | (simp only [List.length_drop, List.length_take]; rfl)) : p := h
theorem zv4 {p : Prop} (h : p := by (with_reducible repeat (first | refine blk_drewN ?_ _ | refine blk_drew ?_ | refine blk_alloc ?_ _)); exact BK512.out) : p := h
theorem zv6 {p : Prop} (h : p := by repeat (first | (with_reducible first | exact HB.out | apply below_alloc | apply pw_below_drewN | apply below_drew1 | refine below_set ?_ GE511.out | refine below_set ?_ GE512.out) | exact HB.out)) : p := h
theorem zv7 {p : Prop} (h : p := by (with_reducible repeat (first | refine blk_drewN ?_ _ | refine blk_drew ?_ | refine blk_alloc ?_ _)); exact BK533.out) : p := h
theorem zv8 {p : Prop} (h : p := by (with_reducible repeat (first | apply Kd.R_alloc | apply Kd.R_drewN | apply Kd.R_drew)); exact HO_534002.out) : p := h
theorem zv9 {p : Prop} (h : p := by (with_reducible repeat (first | apply Kd.R_alloc | apply Kd.R_drewN | apply Kd.R_drew)); exact HO_12.out) : p := h
theorem zv10 {p : Prop} (h : p := by (with_reducible repeat (first | apply Kd.R_alloc | apply Kd.R_drewN | apply Kd.R_drew)); exact HO_8.out) : p := h
theorem zv11 {p : Prop} (h : p := by repeat (first | (with_reducible first | exact HB.out | apply below_alloc | apply pw_below_drewN | apply below_drew1 | refine below_set ?_ GE511.out) | exact HB.out)) : p := h
theorem zv12 {p : Prop} (h : p := by (with_reducible repeat (first | apply Kd.R_alloc | apply Kd.R_drewN | apply Kd.R_drew)); exact HO_11.out) : p := h
theorem zv13 {p : Prop} (h : p := by repeat (first | exact (Kd.C_below HR0_2.out HB.out) | (with_reducible refine Kd.C_alloc ?_ _) | (with_reducible refine Kd.C_drewN ?_ _) | (with_reducible refine Kd.C_drew ?_))) : p := h
theorem zv14 {p : Prop} (h : p := by repeat (first | exact (Kd.R_reads' HO_12.out).2.2 | (with_reducible refine Kd.C_alloc ?_ _) | (with_reducible refine Kd.C_drewN ?_ _) | (with_reducible refine Kd.C_drew ?_))) : p := h
theorem zv15 {p : Prop} (h : p := by repeat (first | (with_reducible first | exact HB.out | apply below_alloc | apply pw_below_drewN | apply below_drew1) | exact HB.out)) : p := h
theorem zv16 {p : Prop} (h : p := by (with_reducible repeat (first | apply Kd.R_alloc | apply Kd.R_drewN | apply Kd.R_drew)); exact HO518.out) : p := h
theorem zv17 {p : Prop} (h : p := by first | rfl | (simp [errW_none, errW_some] <;> rfl) | (simp [*, errW_none, errW_some] <;> rfl)) : p := h
theorem zv18 {p : Prop} (h : p := by (with_reducible repeat (first | apply Kd.R_alloc | apply Kd.R_drewN | apply Kd.R_drew)); exact HO523.out) : p := h
theorem zv19 {p : Prop} (h : p := by (with_reducible repeat (first | apply Kd.R_alloc | apply Kd.R_drewN | apply Kd.R_drew)); exact HO548.out) : p := h
theorem zv20 {p : Prop} (h : p := by (with_reducible repeat (first | apply Kd.R_alloc | apply Kd.R_drewN | apply Kd.R_drew)); exact HO526.out) : p := h
theorem zv21 {p : Prop} (h : p := by repeat (first | exact (Kd.C_below HR2.out HB.out) | (with_reducible refine Kd.C_alloc ?_ _) | (with_reducible refine Kd.C_drewN ?_ _) | (with_reducible refine Kd.C_drew ?_))) : p := h
theorem zv22 {p : Prop} (h : p := by repeat (first | exact (Kd.R_reads' HO_8.out).2.2 | (with_reducible refine Kd.C_alloc ?_ _) | (with_reducible refine Kd.C_drewN ?_ _) | (with_reducible refine Kd.C_drew ?_))) : p := h
theorem zv23 {p : Prop} (h : p := by (try simp only [List.map_toArray, List.map_cons, List.map_nil]); first | done | (rw [show t560.length = t539.length from (Kd.R_reads' HO_12.out).1.symm] <;> rfl) | rfl | (simp only [List.length_drop, List.length_take]; rfl)) : p := h
theorem zv24 {p : Prop} (h : p := by (with_reducible repeat (first | apply Kd.R_alloc | apply Kd.R_drewN | apply Kd.R_drew)); exact (Kd.R_mono (Kd.R_far (p := ⟨gb533, 2, none⟩) (Kd.R_far (p := ⟨gb533, 1, none⟩) (Kd.R_far (p := ⟨gb533, 0, none⟩) (Kd.R_types HO532.out BK533.out (by decide)) (fun _ hk => hk.2) (.int .i64 t528)) (fun _ hk => hk.2) (.int .i64 t529)) (fun _ hk => hk.2) (.slice Ao41 t530.length co41)) (fun _ h_ => h_.1))) : p := h
theorem zv25 {p : Prop} (h : p := by (with_reducible repeat (first | apply Kd.R_alloc | apply Kd.R_drewN | apply Kd.R_drew)); exact (Kd.R_mono (Kd.R_far (p := ⟨gb533, 2, none⟩) (Kd.R_far (p := ⟨gb533, 1, none⟩) (Kd.R_far (p := ⟨gb533, 0, none⟩) (Kd.R_types HO526.out BK533.out (by decide)) (fun _ hk => hk.2) (.int .i64 t528)) (fun _ hk => hk.2) (.int .i64 t529)) (fun _ hk => hk.2) (.slice Ao41 t530.length co41)) (fun _ h_ => h_.1))) : p := h
theorem zv26 {p : Prop} (h : p := by (with_reducible repeat (first | apply Kd.R_alloc | apply Kd.R_drewN | apply Kd.R_drew)); exact (Kd.R_mono (Kd.R_far (p := ⟨gb533, 2, none⟩) (Kd.R_far (p := ⟨gb533, 1, none⟩) (Kd.R_far (p := ⟨gb533, 0, none⟩) (Kd.R_types HO523.out BK533.out (by decide)) (fun _ hk => hk.2) (.int .i64 t528)) (fun _ hk => hk.2) (.int .i64 t529)) (fun _ hk => hk.2) (.slice Ao41 t530.length co41)) (fun _ h_ => h_.1))) : p := h
theorem zv27 {p : Prop} (h : p := by (with_reducible repeat (first | apply Kd.R_alloc | apply Kd.R_drewN | apply Kd.R_drew)); exact (Kd.R_mono (Kd.R_far (p := ⟨gb533, 2, none⟩) (Kd.R_far (p := ⟨gb533, 1, none⟩) (Kd.R_far (p := ⟨gb533, 0, none⟩) (Kd.R_types HO518.out BK533.out (by decide)) (fun _ hk => hk.2) (.int .i64 t528)) (fun _ hk => hk.2) (.int .i64 t529)) (fun _ hk => hk.2) (.slice Ao41 t530.length co41)) (fun _ h_ => h_.1))) : p := h
theorem zv28 {p : Prop} (h : p := by (with_reducible repeat (first | apply Kd.R_alloc | apply Kd.R_drewN | apply Kd.R_drew)); exact HO566.out) : p := h
theorem zv29 {p : Prop} (h : p := by repeat (first | exact (Kd.R_reads' HO_534002.out).2.2 | (with_reducible refine Kd.C_alloc ?_ _) | (with_reducible refine Kd.C_drewN ?_ _) | (with_reducible refine Kd.C_drew ?_))) : p := h
theorem zv30 {p : Prop} (h : p := by repeat (first | exact (Kd.R_reads' HO548.out).2.2 | (with_reducible refine Kd.C_alloc ?_ _) | (with_reducible refine Kd.C_drewN ?_ _) | (with_reducible refine Kd.C_drew ?_))) : p := h
theorem zv31 {p : Prop} (h : p := by (with_reducible repeat (first | apply Kd.R_alloc | apply Kd.R_drewN | apply Kd.R_drew)); exact HO532.out) : p := h
theorem zv32 {p : Prop} (h : p := by (with_reducible repeat (first | apply Kd.R_alloc | apply Kd.R_drewN | apply Kd.R_drew)); exact Kd.R_mono HO_534002.out (fun _ hk => ⟨hk.1, hk.2.2.1⟩)) : p := h
theorem zv33 {p : Prop} (h : p := by (with_reducible repeat (first | apply Kd.R_alloc | apply Kd.R_drewN | apply Kd.R_drew)); exact Kd.R_mono HO_8.out (fun _ hk => ⟨hk.2.1, hk.2.2.1⟩)) : p := h
theorem zv34 {p : Prop} (h : p := by (with_reducible repeat (first | apply Kd.R_alloc | apply Kd.R_drewN | apply Kd.R_drew)); exact Kd.R_mono HO_12.out (fun _ hk => ⟨hk.1, hk.2.2.1⟩)) : p := h
theorem zv35 {p : Prop} (h : p := by first | rfl | (simp; done) | (simp [*]; done)) : p := h
theorem zv36 {p : Prop} (h : p := by (with_reducible repeat (first | apply Kd.R_alloc | apply Kd.R_drewN | apply Kd.R_drew)); exact HO536.out) : p := h
theorem zv37 {p : Prop} (h : p := by rw [show t560.length = t539.length from (Kd.R_reads' HO_12.out).1.symm]; exact (Kd.R_reads' HO_12.out).2.1) : p := h
theorem zv38 {p : Prop} (h : p := by (try simp only [hl534002_61]); (with_reducible repeat (first | apply Kd.R_alloc | apply Kd.R_drewN | apply Kd.R_drew)); exact Kd.R_mono HO_534002.out (fun _ hk => hk.1.1.1.2)) : p := h
theorem zv39 {p : Prop} (h : p := by (try simp only [hl534002_61]); (with_reducible repeat (first | apply Kd.R_alloc | apply Kd.R_drewN | apply Kd.R_drew)); exact Kd.R_mono HO_12.out (fun _ hk => hk.1.1.1.2)) : p := h
theorem zv40 {p : Prop} (h : p := by (with_reducible repeat (first | apply Kd.R_alloc | apply Kd.R_drewN | apply Kd.R_drew)); exact Kd.R_mono HO541.out (fun _ hk => ⟨hk.1.1.2, ⟨hk.2, hk.1.2⟩⟩)) : p := h
theorem zv41 {p : Prop} (h : p := by (with_reducible repeat (first | apply Kd.R_alloc | apply Kd.R_drewN | apply Kd.R_drew)); exact Kd.R_mono HO536.out (fun _ hk => ⟨hk.1.1.2, ⟨hk.2, hk.1.2⟩⟩)) : p := h
theorem zv42 {p : Prop} (h : p := by (with_reducible repeat (first | apply Kd.R_alloc | apply Kd.R_drewN | apply Kd.R_drew)); exact Kd.R_mono HO532.out (fun _ hk => ⟨hk.1.1.2, ⟨hk.1.2, hk.2⟩⟩)) : p := h
theorem zv43 {p : Prop} (h : p := by (with_reducible repeat (first | apply Kd.R_alloc | apply Kd.R_drewN | apply Kd.R_drew)); exact Kd.R_mono HO526.out (fun _ hk => ⟨hk.1.2, ⟨hk.2, hk.1.1.2⟩⟩)) : p := h
theorem zv44 {p : Prop} (h : p := by repeat (first | exact (Kd.R_reads' HO_11.out).2.2 | (with_reducible refine Kd.C_alloc ?_ _) | (with_reducible refine Kd.C_drewN ?_ _) | (with_reducible refine Kd.C_drew ?_))) : p := h
theorem zv45 {p : Prop} (h : p := by repeat (first | exact (Kd.R_reads' HO574.out).2.2 | (with_reducible refine Kd.C_alloc ?_ _) | (with_reducible refine Kd.C_drewN ?_ _) | (with_reducible refine Kd.C_drew ?_))) : p := h
theorem zv46 {p : Prop} (h : p := by repeat (first | exact (Kd.R_reads' HO552.out).2.2 | (with_reducible refine Kd.C_alloc ?_ _) | (with_reducible refine Kd.C_drewN ?_ _) | (with_reducible refine Kd.C_drew ?_))) : p := h
theorem zv47 {p : Prop} (h : p := by repeat (first | exact (Kd.R_reads' HO541.out).2.2 | (with_reducible refine Kd.C_alloc ?_ _) | (with_reducible refine Kd.C_drewN ?_ _) | (with_reducible refine Kd.C_drew ?_))) : p := h
theorem zv48 {p : Prop} (h : p := by repeat (first | exact (Kd.R_reads' HO526.out).2.2 | (with_reducible refine Kd.C_alloc ?_ _) | (with_reducible refine Kd.C_drewN ?_ _) | (with_reducible refine Kd.C_drew ?_))) : p := h
theorem zv49 {p : Prop} (h : p := by (try simp only [hl534002_61]); (with_reducible repeat (first | refine blk_drewN ?_ _ | refine blk_drew ?_ | refine blk_alloc ?_ _)); exact BK533.out) : p := h
theorem zv50 {p : Prop} (h : p := by (try simp only [hl534002_61]); (with_reducible repeat (first | refine blk_drewN ?_ _ | refine blk_drew ?_ | refine blk_alloc ?_ _)); exact BK512.out) : p := h
theorem zv51 {p : Prop} (h : p := by (try simp only [hl534002_61]); (with_reducible repeat (first | refine blk_drewN ?_ _ | refine blk_drew ?_ | refine blk_alloc ?_ _)); exact BK511.out) : p := h
theorem zv52 {p : Prop} (h : p := by rw [hg]; exact Nat.ne_of_lt (blk_lt (g := gb511) (o := .cells #[.int .i64 a0_0, .int .i64 a0_1, .slice A0_2 l0_2.length c0_2] 24 (0, 0)) zv2)) : p := h
theorem zv53 {p : Prop} (h : p := by rw [hg]; exact Nat.ne_of_gt (blk_lt (g := gb511) (o := .cells #[.int .i64 a0_0, .int .i64 a0_1, .slice A0_2 l0_2.length c0_2] 24 (0, 0)) zv2)) : p := h
theorem zv54 {p : Prop} (h : p := by rw [hg]; exact (below_size zv15)) : p := h
theorem zv55 {p : Prop} (h : p := by rw [hg]; exact (below_size zv11)) : p := h
/-! ### laws_FnExactTailTurns: function 5 -/
mutual
def laws_FnExactTailTurns.j0 : Nat → List Int → List Int → Bool → List Int → List Int → Bool → Bool → Int → Int → List Int → Int → Int → Int → Int → List Int → Option (Bool)
 | 0, _, _, _, _, _, _, _, _, _, _, _, _, _, _, _ => none
 | k + 1, x2, x8, x9, x11, x12, x13, x57, x512000, x512001, x512002, x513000, x513001, x534000, x534001, x534002 => if x57 = true then (some false) else ((laws_toBoard.f k x512000 x512001 x512002).bind fun bt544 => ((laws_eqBoard.f k x534000 x534001 x534002 bt544.1 bt544.2.1 bt544.2.2).bind fun t549 => (if t549 = true then ((laws_toIntS.f k x2).bind fun t550 => ((laws_eqIntS.f k x11 t550).bind fun t553 => (if t553 = true then ((laws_markBoard.f k x534000 x534001 x534002 1).bind fun bt554 => ((laws_markIntS.f k x11 bt554.1).bind fun bt556 => (if bt556.1 < 0 then (laws_FnExactTailTurns.j1 k x2 x8 x9 x12 true x512000 x512001 x512002 x513000 x513001) else ((laws_eqIntS.f k x12 x8).bind fun t558 => (if t558 = true then (laws_FnExactTailTurns.j1 k x2 x8 x9 x12 (x13 != x9) x512000 x512001 x512002 x513000 x513001) else (laws_FnExactTailTurns.j1 k x2 x8 x9 x12 true x512000 x512001 x512002 x513000 x513001)))))) else (some false)))) else (some false))))
def laws_FnExactTailTurns.j1 : Nat → List Int → List Int → Bool → List Int → Bool → Int → Int → List Int → Int → Int → Option (Bool)
 | 0, _, _, _, _, _, _, _, _, _, _ => none
 | k + 1, x2, x8, x9, x12, x86, x512000, x512001, x512002, x513000, x513001 => if x86 = true then (some false) else ((laws_markIntS.f k x12 1).bind fun bt559 => ((laws_heldIntS.f k bt559.2 1).bind fun t561 => (if t561 < 0 then (some false) else (if t561 = bt559.1 then ((laws_toBoard.f k x512000 x512001 x512002).bind fun bt562 => ((laws_toLeaper.f x513000 x513001).bind fun bt567 => ((laws_toIntS.f k x2).bind fun t569 => ((impl_TailTurns.f k bt562.1 bt562.2.1 bt562.2.2 bt567.1 bt567.2 t569).bind fun bt572 => ((laws_eqIntS.f k bt572.1 x8).bind fun t576 => (if t576 = true then (laws_FnExactTailTurns.j2 k bt559.2 bt559.1 (bt572.2 != x9)) else (laws_FnExactTailTurns.j2 k bt559.2 bt559.1 true))))))) else (some false)))))
def laws_FnExactTailTurns.j2 : Nat → List Int → Int → Bool → Option (Bool)
 | 0, _, _, _ => none
 | k + 1, x12, x15, x116 => if x116 = true then (some false) else ((laws_heldIntS.f k x12 1).bind fun t577 => (if t577 < 0 then (some false) else (if t577 = x15 then (some true) else (some false))))
end
def laws_FnExactTailTurns.f (k : Nat) (a0_0 : Int) (a0_1 : Int) (l0_2 : List Int) (a1_0 : Int) (a1_1 : Int) (l2 : List Int) : Option (Bool) := if (l2.length : Int) > 1048576 then (some true) else ((laws_szBoard.f a0_0 a0_1 l0_2 1048576).bind fun t513 => (if t513 < 0 then (some true) else ((laws_toBoard.f k a0_0 a0_1 l0_2).bind fun bt514 => ((laws_toLeaper.f a1_0 a1_1).bind fun bt519 => ((laws_toIntS.f k l2).bind fun t521 => ((spec_TailTurns.f k bt514.1 bt514.2.1 bt514.2.2 bt519.1 bt519.2 t521).bind fun bt524 => ((laws_toBoard.f k a0_0 a0_1 l0_2).bind fun bt528 => ((laws_toIntS.f k l2).bind fun t534 => ((laws_toLeaper.f a1_0 a1_1).bind fun bt537 => ((impl_TailTurns.f k bt528.1 bt528.2.1 bt528.2.2 bt537.1 bt537.2 t534).bind fun bt539 => ((laws_eqIntS.f k bt539.1 bt524.1).bind fun t543 => (if t543 = true then (laws_FnExactTailTurns.j0 k l2 bt524.1 bt524.2 t534 bt539.1 bt539.2 (bt539.2 != bt524.2) a0_0 a0_1 l0_2 a1_0 a1_1 bt528.1 bt528.2.1 bt528.2.2) else (laws_FnExactTailTurns.j0 k l2 bt524.1 bt524.2 t534 bt539.1 bt539.2 true a0_0 a0_1 l0_2 a1_0 a1_1 bt528.1 bt528.2.1 bt528.2.2)))))))))))))
def laws_FnExactTailTurns.T7 : Bool × List (List Nat × List Nat) := (true, [([], []), ([0], [0]), ([], []), ([2, 1], [2]), ([], []), ([4, 3], [4]), ([1, 3, 5, 5], [1, 3, 5]), ([6], [6]), ([7], [7]), ([7], [7]), ([8, 6, 0, 1, 2, 3, 4, 5, 6, 7, 8], [8]), ([9, 10, 0, 1, 2, 3, 4, 5, 6, 7, 8, 9, 10], [9])])
def laws_FnExactTailTurns.B7 : List Nat := [0, 1, 0, 7, 0, 31, 63, 127, 255, 255, 511, 2047]
theorem laws_FnExactTailTurns.tab7 : rtab .any (opsOf Try.f5 7) = laws_FnExactTailTurns.T7 := by kernel_rfl
theorem laws_FnExactTailTurns.bits7 : waitsOk laws_FnExactTailTurns.T7.2 laws_FnExactTailTurns.B7 = true := by kernel_rfl
def laws_FnExactTailTurns.T10 : Bool × List (List Nat × List Nat) := (true, [([], []), ([], []), ([1], [1]), ([], []), ([0, 2, 3, 2], [0, 2, 3]), ([4], [4]), ([5], [5]), ([5], [5]), ([6, 4, 0, 1, 2, 3, 4, 5, 6], [6]), ([7, 8, 0, 1, 2, 3, 4, 5, 6, 7, 8], [7])])
def laws_FnExactTailTurns.B10 : List Nat := [0, 0, 2, 0, 15, 31, 63, 63, 127, 511]
theorem laws_FnExactTailTurns.tab10 : rtab .any (opsOf Try.f5 10) = laws_FnExactTailTurns.T10 := by kernel_rfl
theorem laws_FnExactTailTurns.bits10 : waitsOk laws_FnExactTailTurns.T10.2 laws_FnExactTailTurns.B10 = true := by kernel_rfl
def laws_FnExactTailTurns.T30 : Bool × List (List Nat × List Nat) := (true, [([], []), ([0], [0]), ([], []), ([2, 1], [2]), ([], []), ([4, 3], [4]), ([1, 3, 5, 5], [1, 3, 5]), ([6], [6]), ([7], [7]), ([7], [7]), ([8, 6, 0, 1, 2, 3, 4, 5, 6, 7, 8], [8]), ([9, 10, 0, 1, 2, 3, 4, 5, 6, 7, 8, 9, 10], [9])])
def laws_FnExactTailTurns.B30 : List Nat := [0, 1, 0, 7, 0, 31, 63, 127, 255, 255, 511, 2047]
theorem laws_FnExactTailTurns.tab30 : rtab .any (opsOf Try.f5 30) = laws_FnExactTailTurns.T30 := by kernel_rfl
theorem laws_FnExactTailTurns.bits30 : waitsOk laws_FnExactTailTurns.T30.2 laws_FnExactTailTurns.B30 = true := by kernel_rfl
set_option maxHeartbeats 8000000 in
set_option maxRecDepth 100000 in
theorem laws_FnExactTailTurns.calls (k : Nat) (a0_0 : Int) (a0_1 : Int) (A0_2 : Option Addr) (c0_2 : Nat) (l0_2 : List Int) (a1_0 : Int) (a1_1 : Int) (A2 : Option Addr) (c2 : Nat) (l2 : List Int) (r : Bool) (w : World) (hr0_2 : Kd.C (Kd.int .i64) w A0_2 l0_2.length l0_2) (hc0_2 : l0_2.length ≤ c0_2) (hr2 : Kd.C (Kd.int .i64) w A2 l2.length l2) (hc2 : l2.length ≤ c2) (h : laws_FnExactTailTurns.f k a0_0 a0_1 l0_2 a1_0 a1_1 l2 = some r) :
  Calls Try.prog 5 #[.agg #[.int .i64 a0_0, .int .i64 a0_1, .slice A0_2 l0_2.length c0_2], .agg #[.int .i64 a1_0, .int .i64 a1_1], .slice A2 l2.length c2] w fun e w' => e = .returned (.bool r) ∧ Below w.heap.size w w' := by
 have hu24 := Try.underlying24
 have hu26 := Try.underlying26
 have hu30 := Try.underlying30
 have HR0_2 := Aside0.mk hr0_2
 have HC0_2 := Aside0.mk hc0_2
 clear hr0_2 hc0_2
 have HR2 := Aside0.mk hr2
 have HC2 := Aside0.mk hc2
 clear hr2 hc2
 have HB := Aside0.mk (Below.refl w.heap.size w)
 have H : (if (l2.length : Int) > 1048576 then (some true) else ((laws_szBoard.f a0_0 a0_1 l0_2 1048576).bind fun t513 => (if t513 < 0 then (some true) else ((laws_toBoard.f k a0_0 a0_1 l0_2).bind fun bt514 => ((laws_toLeaper.f a1_0 a1_1).bind fun bt519 => ((laws_toIntS.f k l2).bind fun t521 => ((spec_TailTurns.f k bt514.1 bt514.2.1 bt514.2.2 bt519.1 bt519.2 t521).bind fun bt524 => ((laws_toBoard.f k a0_0 a0_1 l0_2).bind fun bt528 => ((laws_toIntS.f k l2).bind fun t534 => ((laws_toLeaper.f a1_0 a1_1).bind fun bt537 => ((impl_TailTurns.f k bt528.1 bt528.2.1 bt528.2.2 bt537.1 bt537.2 t534).bind fun bt539 => ((laws_eqIntS.f k bt539.1 bt524.1).bind fun t543 => (if t543 = true then (laws_FnExactTailTurns.j0 k l2 bt524.1 bt524.2 t534 bt539.1 bt539.2 (bt539.2 != bt524.2) a0_0 a0_1 l0_2 a1_0 a1_1 bt528.1 bt528.2.1 bt528.2.2) else (laws_FnExactTailTurns.j0 k l2 bt524.1 bt524.2 t534 bt539.1 bt539.2 true a0_0 a0_1 l0_2 a1_0 a1_1 bt528.1 bt528.2.1 bt528.2.2)))))))))))))) = some r := h
 clear h
 by_cases c4 : (l2.length : Int) > 1048576
 ·rw [if_pos c4] at H
  have c4b0 : decide (1048576 < (l2.length : Int)) = true := decide_eq_true c4
  have c4b1 : decide (1048576 < l2.length) = true := decide_eq_true (by omega)
  clear c4
  obtain rfl := Option.some.inj H
  go_enter Try.func5, Try.ntmps5
  go_wp2_with (first | ((with_reducible refine gate_dst (N := 3) rfl ?_); refine box_event ?hg (N := 3) ?hd (cs := #[.int .i64 a0_0, .int .i64 a0_1, .slice A0_2 l0_2.length c0_2]) (t := 24) ?hr ?_; (case hd => rfl); (case hg => rfl); (case hr => first | (go_simp; done) | (go_simp; rfl)); intro gb511 hg w5 hbox hb; have n0_ := Aside0.mk (below_step zv15 hb); have n1_ := Aside0.mk (hbox); have n2_ := Aside0.mk ((zv54 : w.heap.size ≤ gb511)); have n3_ := Aside0.mk ((zv54 : w.heap.size ≤ gb511)); clear HB; have HB := n0_; have BK511 := n1_; have GW511 := n2_; have GE511 := n3_; clear n0_ n1_ n2_ n3_; clear hb hbox hg) | ((with_reducible refine gate_dst (N := 4) rfl ?_); refine box_event ?hg (N := 4) ?hd (cs := #[.int .i64 a1_0, .int .i64 a1_1]) (t := 26) ?hr ?_; (case hd => rfl); (case hg => rfl); (case hr => first | (go_simp; done) | (go_simp; rfl)); intro gb512 hg w6 hbox hb; have n0_ := Aside0.mk (blk_below (g := gb511) (o := .cells #[.int .i64 a0_0, .int .i64 a0_1, .slice A0_2 l0_2.length c0_2] 24 (0, 0)) zv2 hb); have n1_ := Aside0.mk (below_step zv11 hb); have n2_ := Aside0.mk (hbox); have n3_ := Aside0.mk ((zv55 : w.heap.size ≤ gb512)); have n4_ := Aside0.mk ((zv55 : w.heap.size ≤ gb512)); have n5_ := Aside0.mk ((zv52 : gb511 ≠ gb512)); have n6_ := Aside0.mk ((zv53 : gb512 ≠ gb511)); clear BK511; clear HB; have BK511 := n0_; have HB := n1_; have BK512 := n2_; have GW512 := n3_; have GE512 := n4_; have NB511_512 := n5_; have NB512_511 := n6_; clear n0_ n1_ n2_ n3_ n4_ n5_ n6_; clear hb hbox hg))
  go_ret
  exact ⟨zv17, zv6⟩
 rw [if_neg c4] at H
 have c4b0 : decide (1048576 < (l2.length : Int)) = false := decide_eq_false c4
 have c4b1 : decide (1048576 < l2.length) = false := decide_eq_false (by omega)
 clear c4
 replace H := Option.bind_eq_some_iff.mp H
 obtain ⟨t513, A70, H⟩ := H
 replace H : (if t513 < 0 then (some true) else ((laws_toBoard.f k a0_0 a0_1 l0_2).bind fun bt514 => ((laws_toLeaper.f a1_0 a1_1).bind fun bt519 => ((laws_toIntS.f k l2).bind fun t521 => ((spec_TailTurns.f k bt514.1 bt514.2.1 bt514.2.2 bt519.1 bt519.2 t521).bind fun bt524 => ((laws_toBoard.f k a0_0 a0_1 l0_2).bind fun bt528 => ((laws_toIntS.f k l2).bind fun t534 => ((laws_toLeaper.f a1_0 a1_1).bind fun bt537 => ((impl_TailTurns.f k bt528.1 bt528.2.1 bt528.2.2 bt537.1 bt537.2 t534).bind fun bt539 => ((laws_eqIntS.f k bt539.1 bt524.1).bind fun t543 => (if t543 = true then (laws_FnExactTailTurns.j0 k l2 bt524.1 bt524.2 t534 bt539.1 bt539.2 (bt539.2 != bt524.2) a0_0 a0_1 l0_2 a1_0 a1_1 bt528.1 bt528.2.1 bt528.2.2) else (laws_FnExactTailTurns.j0 k l2 bt524.1 bt524.2 t534 bt539.1 bt539.2 true a0_0 a0_1 l0_2 a1_0 a1_1 bt528.1 bt528.2.1 bt528.2.2)))))))))))) = some r := H
 have A7 := Aside0.mk A70
 clear A70
 by_cases c8 : t513 < 0
 ·rw [if_pos c8] at H
  have c8b0 : decide (t513 < 0) = true := decide_eq_true c8
  clear c8
  obtain rfl := Option.some.inj H
  go_enter Try.func5, Try.ntmps5
  go_wp2_with (first | ((with_reducible refine gate_dst (N := 3) rfl ?_); refine box_event ?hg (N := 3) ?hd (cs := #[.int .i64 a0_0, .int .i64 a0_1, .slice A0_2 l0_2.length c0_2]) (t := 24) ?hr ?_; (case hd => rfl); (case hg => rfl); (case hr => first | (go_simp; done) | (go_simp; rfl)); intro gb511 hg w9 hbox hb; have n0_ := Aside0.mk (below_step zv15 hb); have n1_ := Aside0.mk (hbox); have n2_ := Aside0.mk ((zv54 : w.heap.size ≤ gb511)); have n3_ := Aside0.mk ((zv54 : w.heap.size ≤ gb511)); clear HB; have HB := n0_; have BK511 := n1_; have GW511 := n2_; have GE511 := n3_; clear n0_ n1_ n2_ n3_; clear hb hbox hg) | ((with_reducible refine gate_dst (N := 4) rfl ?_); refine box_event ?hg (N := 4) ?hd (cs := #[.int .i64 a1_0, .int .i64 a1_1]) (t := 26) ?hr ?_; (case hd => rfl); (case hg => rfl); (case hr => first | (go_simp; done) | (go_simp; rfl)); intro gb512 hg w10 hbox hb; have n0_ := Aside0.mk (blk_below (g := gb511) (o := .cells #[.int .i64 a0_0, .int .i64 a0_1, .slice A0_2 l0_2.length c0_2] 24 (0, 0)) zv2 hb); have n1_ := Aside0.mk (below_step zv11 hb); have n2_ := Aside0.mk (hbox); have n3_ := Aside0.mk ((zv55 : w.heap.size ≤ gb512)); have n4_ := Aside0.mk ((zv55 : w.heap.size ≤ gb512)); have n5_ := Aside0.mk ((zv52 : gb511 ≠ gb512)); have n6_ := Aside0.mk ((zv53 : gb512 ≠ gb511)); clear BK511; clear HB; have BK511 := n0_; have HB := n1_; have BK512 := n2_; have GW512 := n3_; have GE512 := n4_; have NB511_512 := n5_; have NB512_511 := n6_; clear n0_ n1_ n2_ n3_ n4_ n5_ n6_; clear hb hbox hg; have hnb11 := NB511_512.out; have hnc11 := NB512_511.out; have hcz12_0 : w10.cell? ⟨gb511, 0, none⟩ = some (.int .i64 a0_0) := (blk_cell BK511.out 0).trans rfl; have hcz12_1 : w10.cell? ⟨gb511, 1, none⟩ = some (.int .i64 a0_1) := (blk_cell BK511.out 1).trans rfl; have hcz12_2 : w10.cell? ⟨gb511, 2, none⟩ = some (.slice A0_2 l0_2.length c0_2) := (blk_cell BK511.out 2).trans rfl; have hfz12_0 := blk_frozen BK511.out 0; have hfz12_1 := blk_frozen BK511.out 1; have hfz12_2 := blk_frozen BK511.out 2) | ((with_reducible refine gate_callee (f := 15) rfl ?_); refine goesL_ (some 24) rfl rfl Try.func15 (by kernel_rfl) rfl #[.agg #[.int .i64 a0_0, .int .i64 a0_1, .slice A0_2 l0_2.length c0_2], .int .i64 1048576] rfl zv3 ?_; (with_reducible refine (laws_szBoard.calls a0_0 a0_1 _ _ l0_2 1048576 t513 _ ?side1 ?side2 A7.out).mono ?_); (case side1 => exact zv13); (case side2 => exact HC0_2.out); rintro e w13 ⟨rfl, hb⟩; refine ⟨_, rfl, ?_⟩; have n0_ := Aside0.mk (blk_below (g := gb511) (o := .cells #[.int .i64 a0_0, .int .i64 a0_1, .slice A0_2 l0_2.length c0_2] 24 (0, 0)) zv2 hb); have n1_ := Aside0.mk (blk_below (g := gb512) (o := .cells #[.int .i64 a1_0, .int .i64 a1_1] 26 (0, 0)) zv4 hb); have n2_ := Aside0.mk (below_step zv6 hb); clear BK511; clear BK512; clear HB; have BK511 := n0_; have BK512 := n1_; have HB := n2_; clear n0_ n1_ n2_; (try clear hb); (try clear hb2); (try clear hk); (try clear hi); (try clear hna_); (try clear hnb_)))
  go_ret
  exact ⟨zv17, zv6⟩
 rw [if_neg c8] at H
 have c8b0 : decide (t513 < 0) = false := decide_eq_false c8
 clear c8
 replace H := Option.bind_eq_some_iff.mp H
 obtain ⟨⟨t514, t515, t516⟩, A140, H⟩ := H
 replace H : ((laws_toLeaper.f a1_0 a1_1).bind fun bt519 => ((laws_toIntS.f k l2).bind fun t521 => ((spec_TailTurns.f k t514 t515 t516 bt519.1 bt519.2 t521).bind fun bt524 => ((laws_toBoard.f k a0_0 a0_1 l0_2).bind fun bt528 => ((laws_toIntS.f k l2).bind fun t534 => ((laws_toLeaper.f a1_0 a1_1).bind fun bt537 => ((impl_TailTurns.f k bt528.1 bt528.2.1 bt528.2.2 bt537.1 bt537.2 t534).bind fun bt539 => ((laws_eqIntS.f k bt539.1 bt524.1).bind fun t543 => (if t543 = true then (laws_FnExactTailTurns.j0 k l2 bt524.1 bt524.2 t534 bt539.1 bt539.2 (bt539.2 != bt524.2) a0_0 a0_1 l0_2 a1_0 a1_1 bt528.1 bt528.2.1 bt528.2.2) else (laws_FnExactTailTurns.j0 k l2 bt524.1 bt524.2 t534 bt539.1 bt539.2 true a0_0 a0_1 l0_2 a1_0 a1_1 bt528.1 bt528.2.1 bt528.2.2)))))))))) = some r := H
 have A14 := Aside0.mk A140
 clear A140
 replace H := Option.bind_eq_some_iff.mp H
 obtain ⟨⟨t519, t520⟩, A150, H⟩ := H
 replace H : ((laws_toIntS.f k l2).bind fun t521 => ((spec_TailTurns.f k t514 t515 t516 t519 t520 t521).bind fun bt524 => ((laws_toBoard.f k a0_0 a0_1 l0_2).bind fun bt528 => ((laws_toIntS.f k l2).bind fun t534 => ((laws_toLeaper.f a1_0 a1_1).bind fun bt537 => ((impl_TailTurns.f k bt528.1 bt528.2.1 bt528.2.2 bt537.1 bt537.2 t534).bind fun bt539 => ((laws_eqIntS.f k bt539.1 bt524.1).bind fun t543 => (if t543 = true then (laws_FnExactTailTurns.j0 k l2 bt524.1 bt524.2 t534 bt539.1 bt539.2 (bt539.2 != bt524.2) a0_0 a0_1 l0_2 a1_0 a1_1 bt528.1 bt528.2.1 bt528.2.2) else (laws_FnExactTailTurns.j0 k l2 bt524.1 bt524.2 t534 bt539.1 bt539.2 true a0_0 a0_1 l0_2 a1_0 a1_1 bt528.1 bt528.2.1 bt528.2.2))))))))) = some r := H
 have A15 := Aside0.mk A150
 clear A150
 replace H := Option.bind_eq_some_iff.mp H
 obtain ⟨t521, A160, H⟩ := H
 replace H : ((spec_TailTurns.f k t514 t515 t516 t519 t520 t521).bind fun bt524 => ((laws_toBoard.f k a0_0 a0_1 l0_2).bind fun bt528 => ((laws_toIntS.f k l2).bind fun t534 => ((laws_toLeaper.f a1_0 a1_1).bind fun bt537 => ((impl_TailTurns.f k bt528.1 bt528.2.1 bt528.2.2 bt537.1 bt537.2 t534).bind fun bt539 => ((laws_eqIntS.f k bt539.1 bt524.1).bind fun t543 => (if t543 = true then (laws_FnExactTailTurns.j0 k l2 bt524.1 bt524.2 t534 bt539.1 bt539.2 (bt539.2 != bt524.2) a0_0 a0_1 l0_2 a1_0 a1_1 bt528.1 bt528.2.1 bt528.2.2) else (laws_FnExactTailTurns.j0 k l2 bt524.1 bt524.2 t534 bt539.1 bt539.2 true a0_0 a0_1 l0_2 a1_0 a1_1 bt528.1 bt528.2.1 bt528.2.2)))))))) = some r := H
 have A16 := Aside0.mk A160
 clear A160
 replace H := Option.bind_eq_some_iff.mp H
 obtain ⟨⟨t524, t527⟩, A170, H⟩ := H
 replace H : ((laws_toBoard.f k a0_0 a0_1 l0_2).bind fun bt528 => ((laws_toIntS.f k l2).bind fun t534 => ((laws_toLeaper.f a1_0 a1_1).bind fun bt537 => ((impl_TailTurns.f k bt528.1 bt528.2.1 bt528.2.2 bt537.1 bt537.2 t534).bind fun bt539 => ((laws_eqIntS.f k bt539.1 t524).bind fun t543 => (if t543 = true then (laws_FnExactTailTurns.j0 k l2 t524 t527 t534 bt539.1 bt539.2 (bt539.2 != t527) a0_0 a0_1 l0_2 a1_0 a1_1 bt528.1 bt528.2.1 bt528.2.2) else (laws_FnExactTailTurns.j0 k l2 t524 t527 t534 bt539.1 bt539.2 true a0_0 a0_1 l0_2 a1_0 a1_1 bt528.1 bt528.2.1 bt528.2.2))))))) = some r := H
 have A17 := Aside0.mk A170
 clear A170
 replace H := Option.bind_eq_some_iff.mp H
 obtain ⟨⟨t528, t529, t530⟩, A180, H⟩ := H
 replace H : ((laws_toIntS.f k l2).bind fun t534 => ((laws_toLeaper.f a1_0 a1_1).bind fun bt537 => ((impl_TailTurns.f k t528 t529 t530 bt537.1 bt537.2 t534).bind fun bt539 => ((laws_eqIntS.f k bt539.1 t524).bind fun t543 => (if t543 = true then (laws_FnExactTailTurns.j0 k l2 t524 t527 t534 bt539.1 bt539.2 (bt539.2 != t527) a0_0 a0_1 l0_2 a1_0 a1_1 t528 t529 t530) else (laws_FnExactTailTurns.j0 k l2 t524 t527 t534 bt539.1 bt539.2 true a0_0 a0_1 l0_2 a1_0 a1_1 t528 t529 t530)))))) = some r := H
 have A18 := Aside0.mk A180
 clear A180
 replace H := Option.bind_eq_some_iff.mp H
 obtain ⟨t534, A190, H⟩ := H
 replace H : ((laws_toLeaper.f a1_0 a1_1).bind fun bt537 => ((impl_TailTurns.f k t528 t529 t530 bt537.1 bt537.2 t534).bind fun bt539 => ((laws_eqIntS.f k bt539.1 t524).bind fun t543 => (if t543 = true then (laws_FnExactTailTurns.j0 k l2 t524 t527 t534 bt539.1 bt539.2 (bt539.2 != t527) a0_0 a0_1 l0_2 a1_0 a1_1 t528 t529 t530) else (laws_FnExactTailTurns.j0 k l2 t524 t527 t534 bt539.1 bt539.2 true a0_0 a0_1 l0_2 a1_0 a1_1 t528 t529 t530))))) = some r := H
 have A19 := Aside0.mk A190
 clear A190
 replace H := Option.bind_eq_some_iff.mp H
 obtain ⟨⟨t537, t538⟩, A200, H⟩ := H
 replace H : ((impl_TailTurns.f k t528 t529 t530 t537 t538 t534).bind fun bt539 => ((laws_eqIntS.f k bt539.1 t524).bind fun t543 => (if t543 = true then (laws_FnExactTailTurns.j0 k l2 t524 t527 t534 bt539.1 bt539.2 (bt539.2 != t527) a0_0 a0_1 l0_2 a1_0 a1_1 t528 t529 t530) else (laws_FnExactTailTurns.j0 k l2 t524 t527 t534 bt539.1 bt539.2 true a0_0 a0_1 l0_2 a1_0 a1_1 t528 t529 t530)))) = some r := H
 have A20 := Aside0.mk A200
 clear A200
 replace H := Option.bind_eq_some_iff.mp H
 obtain ⟨⟨t539, t542⟩, A210, H⟩ := H
 replace H : ((laws_eqIntS.f k t539 t524).bind fun t543 => (if t543 = true then (laws_FnExactTailTurns.j0 k l2 t524 t527 t534 t539 t542 (t542 != t527) a0_0 a0_1 l0_2 a1_0 a1_1 t528 t529 t530) else (laws_FnExactTailTurns.j0 k l2 t524 t527 t534 t539 t542 true a0_0 a0_1 l0_2 a1_0 a1_1 t528 t529 t530))) = some r := H
 have A21 := Aside0.mk A210
 clear A210
 have HC22 := Aside0.mk H
 clear H
 go_enter Try.func5, Try.ntmps5
 try go_wp2_with (first | ((with_reducible refine gate_dst (N := 3) rfl ?_); refine box_event ?hg (N := 3) ?hd (cs := #[.int .i64 a0_0, .int .i64 a0_1, .slice A0_2 l0_2.length c0_2]) (t := 24) ?hr ?_; (case hd => rfl); (case hg => rfl); (case hr => first | (go_simp; done) | (go_simp; rfl)); intro gb511 hg w23 hbox hb; have n0_ := Aside0.mk (below_step zv15 hb); have n1_ := Aside0.mk (hbox); have n2_ := Aside0.mk ((zv54 : w.heap.size ≤ gb511)); have n3_ := Aside0.mk ((zv54 : w.heap.size ≤ gb511)); clear HB; have HB := n0_; have BK511 := n1_; have GW511 := n2_; have GE511 := n3_; clear n0_ n1_ n2_ n3_; clear hb hbox hg) | ((with_reducible refine gate_dst (N := 4) rfl ?_); refine box_event ?hg (N := 4) ?hd (cs := #[.int .i64 a1_0, .int .i64 a1_1]) (t := 26) ?hr ?_; (case hd => rfl); (case hg => rfl); (case hr => first | (go_simp; done) | (go_simp; rfl)); intro gb512 hg w24 hbox hb; have n0_ := Aside0.mk (blk_below (g := gb511) (o := .cells #[.int .i64 a0_0, .int .i64 a0_1, .slice A0_2 l0_2.length c0_2] 24 (0, 0)) zv2 hb); have n1_ := Aside0.mk (below_step zv11 hb); have n2_ := Aside0.mk (hbox); have n3_ := Aside0.mk ((zv55 : w.heap.size ≤ gb512)); have n4_ := Aside0.mk ((zv55 : w.heap.size ≤ gb512)); have n5_ := Aside0.mk ((zv52 : gb511 ≠ gb512)); have n6_ := Aside0.mk ((zv53 : gb512 ≠ gb511)); clear BK511; clear HB; have BK511 := n0_; have HB := n1_; have BK512 := n2_; have GW512 := n3_; have GE512 := n4_; have NB511_512 := n5_; have NB512_511 := n6_; clear n0_ n1_ n2_ n3_ n4_ n5_ n6_; clear hb hbox hg; have hnb25 := NB511_512.out; have hnc25 := NB512_511.out; have hcz26_0 : w24.cell? ⟨gb511, 0, none⟩ = some (.int .i64 a0_0) := (blk_cell BK511.out 0).trans rfl; have hcz26_1 : w24.cell? ⟨gb511, 1, none⟩ = some (.int .i64 a0_1) := (blk_cell BK511.out 1).trans rfl; have hcz26_2 : w24.cell? ⟨gb511, 2, none⟩ = some (.slice A0_2 l0_2.length c0_2) := (blk_cell BK511.out 2).trans rfl; have hfz26_0 := blk_frozen BK511.out 0; have hfz26_1 := blk_frozen BK511.out 1; have hfz26_2 := blk_frozen BK511.out 2) | ((with_reducible refine gate_callee (f := 15) rfl ?_); refine goesL_ (some 24) rfl rfl Try.func15 (by kernel_rfl) rfl #[.agg #[.int .i64 a0_0, .int .i64 a0_1, .slice A0_2 l0_2.length c0_2], .int .i64 1048576] rfl zv3 ?_; (with_reducible refine (laws_szBoard.calls a0_0 a0_1 _ _ l0_2 1048576 t513 _ ?side1 ?side2 A7.out).mono ?_); (case side1 => exact zv13); (case side2 => exact HC0_2.out); rintro e w27 ⟨rfl, hb⟩; refine ⟨_, rfl, ?_⟩; have n0_ := Aside0.mk (blk_below (g := gb511) (o := .cells #[.int .i64 a0_0, .int .i64 a0_1, .slice A0_2 l0_2.length c0_2] 24 (0, 0)) zv2 hb); have n1_ := Aside0.mk (blk_below (g := gb512) (o := .cells #[.int .i64 a1_0, .int .i64 a1_1] 26 (0, 0)) zv4 hb); have n2_ := Aside0.mk (below_step zv6 hb); clear BK511; clear BK512; clear HB; have BK511 := n0_; have BK512 := n1_; have HB := n2_; clear n0_ n1_ n2_; (try clear hb); (try clear hb2); (try clear hk); (try clear hi); (try clear hna_); (try clear hnb_)))
 have n0_ := Aside0.mk (blk_drew BK511.out)
 have n1_ := Aside0.mk (blk_drew BK512.out)
 have n2_ := Aside0.mk (below_drew1 HB.out)
 clear BK511
 clear BK512
 clear HB
 have BK511 := n0_
 have BK512 := n1_
 have HB := n2_
 clear n0_ n1_ n2_
 refine start_ (n := 12) (S := fun w' => w'.cell? ⟨gb511, 0, none⟩ = some (.int .i64 a0_0) ∧ w'.cell? ⟨gb511, 1, none⟩ = some (.int .i64 a0_1) ∧ w'.cell? ⟨gb511, 2, none⟩ = some (.slice A0_2 l0_2.length c0_2) ∧ w'.cell? ⟨gb512, 0, none⟩ = some (.int .i64 a1_0) ∧ w'.cell? ⟨gb512, 1, none⟩ = some (.int .i64 a1_1)) (ds := []) #[false, false, false, false, false, false, false, false, false, false, false, false] (by kernel_rfl) rfl rfl ⟨(blk_cell BK511.out 0).trans rfl, (blk_cell BK511.out 1).trans rfl, (blk_cell BK511.out 2).trans rfl, (blk_cell BK512.out 0).trans rfl, (blk_cell BK512.out 1).trans rfl⟩ (fun hHeld => ?_); refine with_tabW laws_FnExactTailTurns.tab7 laws_FnExactTailTurns.bits7 (fun HT_ HW_ => ?_)
 generalize w27.drew = w28 at BK511 BK512 HB hHeld ⊢
 refine pure_ (i := 4) (N := some 32) (v := ?_) (a' := ?_) #[false, false, false, false, true, false, false, false, false, false, false, false] rfl rfl (any_of HT_.out (by kernel_rfl)) (fun _ _ _ h => h) (Or.inl ⟨by rfl, ?_⟩) ?_ ?_
 rotate_left
 ·intro w'
  go_simp
  with_reducible rfl
 rotate_left
 ·simp only [Act.put, List.setIfInBounds_toArray, List.set_cons_zero, List.set_cons_succ, i64_w, i32_w]
  rfl
 refine take_ (i := 0) (N := some 28) (v := ?_) (a' := ?_) #[true, false, false, false, true, false, false, false, false, false, false, false] rfl rfl (take_ofW HT_.out HW_.out (by kernel_rfl)) (fun _ _ _ h => h) (Or.inl ⟨by rfl, ?_⟩) hHeld ?_ ?_
 rotate_left
 ·rintro w' ⟨s0, s1, s2, s3, s4⟩
  go_simp
  with_reducible rfl
 rotate_left
 ·simp only [Act.put, List.setIfInBounds_toArray, List.set_cons_zero, List.set_cons_succ, i64_w, i32_w]
  rfl
 refine take_ (i := 2) (N := some 30) (v := ?_) (a' := ?_) #[true, false, true, false, true, false, false, false, false, false, false, false] rfl rfl (take_ofW HT_.out HW_.out (by kernel_rfl)) (fun _ _ _ h => h) (Or.inl ⟨by rfl, ?_⟩) hHeld ?_ ?_
 rotate_left
 ·rintro w' ⟨s0, s1, s2, s3, s4⟩
  go_simp
  with_reducible rfl
 rotate_left
 ·simp only [Act.put, List.setIfInBounds_toArray, List.set_cons_zero, List.set_cons_succ, i64_w, i32_w]
  rfl
 refine one_ (i := 1) (N := some 29) #[true, true, true, false, true, false, false, false, false, false, false, false] rfl rfl (one_of HT_.out (by kernel_rfl)) (by decide) (fun K hK => ?_)
 refine goes_ Try.func17 (by kernel_rfl) rfl #[.agg #[.int .i64 a0_0, .int .i64 a0_1, .slice A0_2 l0_2.length c0_2]] (by rfl) rfl rfl zv3 ?_
 with_reducible refine (laws_toBoard.calls k a0_0 a0_1 _ _ l0_2 t514 t515 t516 _ ?side1 ?side2 A14.out).mono ?_
 (case side1 => exact zv13)
 (case side2 => exact HC0_2.out)
 rintro e w29 ⟨v517, rfl, ho0, hb⟩
 refine ⟨_, rfl, ?_⟩
 have n0_ := Aside0.mk (Kd.R_lower ho0 (below_size zv6))
 have n1_ := Aside0.mk (blk_below (g := gb511) (o := .cells #[.int .i64 a0_0, .int .i64 a0_1, .slice A0_2 l0_2.length c0_2] 24 (0, 0)) zv2 hb)
 have n2_ := Aside0.mk (blk_below (g := gb512) (o := .cells #[.int .i64 a1_0, .int .i64 a1_1] 26 (0, 0)) zv4 hb)
 have n3_ := Aside0.mk (below_step zv6 hb)
 clear BK511
 clear BK512
 clear HB
 have HO518 := n0_
 have BK511 := n1_
 have BK512 := n2_
 have HB := n3_
 clear n0_ n1_ n2_ n3_
 (try clear hb)
 (try clear hb2)
 (try clear hk)
 (try clear hi)
 (try clear ho0)
 (try clear hna_)
 (try clear hnb_)
 refine hK.out _ _ ⟨(blk_cell BK511.out 0).trans rfl, (blk_cell BK511.out 1).trans rfl, (blk_cell BK511.out 2).trans rfl, (blk_cell BK512.out 0).trans rfl, (blk_cell BK512.out 1).trans rfl⟩ (fun hHeld => ?_)
 clear hK K
 refine norm_ (a' := ?_) ?_ ?_
 rotate_left
 ·show Act.put _ (some 29) _ = _
  simp only [Act.put, List.setIfInBounds_toArray, List.set_cons_zero, List.set_cons_succ, i64_w, i32_w]
  rfl
 refine one_ (i := 3) (N := some 31) #[true, true, true, true, true, false, false, false, false, false, false, false] rfl rfl (one_of HT_.out (by kernel_rfl)) (by decide) (fun K hK => ?_)
 refine goes_ Try.func18 (by kernel_rfl) rfl #[.agg #[.int .i64 a1_0, .int .i64 a1_1]] (by rfl) rfl rfl zv3 ?_
 with_reducible refine (laws_toLeaper.calls a1_0 a1_1 t519 t520 _ A15.out).mono ?_
 rintro e w30 ⟨rfl, hb⟩
 refine ⟨_, rfl, ?_⟩
 have n0_ := Aside0.mk (Kd.R_below zv16 hb)
 have n1_ := Aside0.mk (blk_below (g := gb511) (o := .cells #[.int .i64 a0_0, .int .i64 a0_1, .slice A0_2 l0_2.length c0_2] 24 (0, 0)) zv2 hb)
 have n2_ := Aside0.mk (blk_below (g := gb512) (o := .cells #[.int .i64 a1_0, .int .i64 a1_1] 26 (0, 0)) zv4 hb)
 have n3_ := Aside0.mk (below_step zv6 hb)
 clear HO518
 clear BK511
 clear BK512
 clear HB
 have HO518 := n0_
 have BK511 := n1_
 have BK512 := n2_
 have HB := n3_
 clear n0_ n1_ n2_ n3_
 (try clear hb)
 (try clear hb2)
 (try clear hk)
 (try clear hi)
 (try clear hna_)
 (try clear hnb_)
 refine hK.out _ _ ⟨(blk_cell BK511.out 0).trans rfl, (blk_cell BK511.out 1).trans rfl, (blk_cell BK511.out 2).trans rfl, (blk_cell BK512.out 0).trans rfl, (blk_cell BK512.out 1).trans rfl⟩ (fun hHeld => ?_)
 clear hK K
 refine norm_ (a' := ?_) ?_ ?_
 rotate_left
 ·show Act.put _ (some 31) _ = _
  simp only [Act.put, List.setIfInBounds_toArray, List.set_cons_zero, List.set_cons_succ, i64_w, i32_w]
  rfl
 refine one_ (i := 5) (N := some 33) #[true, true, true, true, true, true, false, false, false, false, false, false] rfl rfl (one_of HT_.out (by kernel_rfl)) (by decide) (fun K hK => ?_)
 refine goes_ Try.func19 (by kernel_rfl) rfl #[.slice A2 l2.length c2] (by rfl) rfl rfl zv3 ?_
 with_reducible refine (laws_toIntS.calls k _ _ l2 t521 _ ?side1 ?side2 A16.out).mono ?_
 (case side1 => exact zv21)
 (case side2 => exact HC2.out)
 rintro e w31 ⟨v522, rfl, ho0, hb⟩
 refine ⟨_, rfl, ?_⟩
 have n0_ := Aside0.mk (Kd.R_elder' zv16 (Kd.R_base ho0) hb)
 have n1_ := Aside0.mk (Kd.R_lower (Kd.R_new' ho0 (Kd.R_lt zv16)) (below_size zv6))
 have n2_ := Aside0.mk (blk_below (g := gb511) (o := .cells #[.int .i64 a0_0, .int .i64 a0_1, .slice A0_2 l0_2.length c0_2] 24 (0, 0)) zv2 hb)
 have n3_ := Aside0.mk (blk_below (g := gb512) (o := .cells #[.int .i64 a1_0, .int .i64 a1_1] 26 (0, 0)) zv4 hb)
 have n4_ := Aside0.mk (below_step zv6 hb)
 clear HO518
 clear BK511
 clear BK512
 clear HB
 have HO518 := n0_
 have HO523 := n1_
 have BK511 := n2_
 have BK512 := n3_
 have HB := n4_
 clear n0_ n1_ n2_ n3_ n4_
 (try clear hb)
 (try clear hb2)
 (try clear hk)
 (try clear hi)
 (try clear ho0)
 (try clear hna_)
 (try clear hnb_)
 obtain ⟨Ao32, co32, eo32⟩ := Kd.R_slice HO518.out
 (first | subst eo32 | (injection eo32 with f1_ f2_ f3_; have f4_ := f1_.symm; have f5_ := f3_.symm; clear f1_ f2_ f3_; subst f4_; subst f5_))
 obtain ⟨Ao33, co33, eo33⟩ := Kd.R_slice HO523.out
 (first | subst eo33 | (injection eo33 with f1_ f2_ f3_; have f4_ := f1_.symm; have f5_ := f3_.symm; clear f1_ f2_ f3_; subst f4_; subst f5_))
 refine hK.out _ _ ⟨(blk_cell BK511.out 0).trans rfl, (blk_cell BK511.out 1).trans rfl, (blk_cell BK511.out 2).trans rfl, (blk_cell BK512.out 0).trans rfl, (blk_cell BK512.out 1).trans rfl⟩ (fun hHeld => ?_)
 clear hK K
 refine norm_ (a' := ?_) ?_ ?_
 rotate_left
 ·show Act.put _ (some 33) _ = _
  simp only [Act.put, List.setIfInBounds_toArray, List.set_cons_zero, List.set_cons_succ, i64_w, i32_w]
  rfl
 refine one_ (i := 6) (N := some 34) #[true, true, true, true, true, true, true, false, false, false, false, false] rfl rfl (one_of HT_.out (by kernel_rfl)) (by decide) (fun K hK => ?_)
 refine goes_ Try.func28 (by kernel_rfl) rfl #[.agg #[.int .i64 t514, .int .i64 t515, .slice Ao32 t516.length co32], .agg #[.int .i64 t519, .int .i64 t520], .slice Ao33 t521.length co33] (by rfl) rfl rfl zv3 ?_
 with_reducible refine (spec_TailTurns.calls k t514 t515 _ _ t516 t519 t520 _ _ t521 t524 t527 _ ?side1 ?side2 ?side3 ?side4 A17.out).mono ?_
 (case side1 => repeat (first | exact (Kd.R_reads' HO518.out).2.2 | (with_reducible refine Kd.C_alloc ?_ _) | (with_reducible refine Kd.C_drewN ?_ _) | (with_reducible refine Kd.C_drew ?_)))
 (case side2 => exact (Kd.R_reads' HO518.out).2.1)
 (case side3 => repeat (first | exact (Kd.R_reads' HO523.out).2.2 | (with_reducible refine Kd.C_alloc ?_ _) | (with_reducible refine Kd.C_drewN ?_ _) | (with_reducible refine Kd.C_drew ?_)))
 (case side4 => exact (Kd.R_reads' HO523.out).2.1)
 rintro e w34 ⟨v525, rfl, ho0, hb⟩
 refine ⟨_, rfl, ?_⟩
 have n0_ := Aside0.mk (Kd.R_elder' zv16 (Kd.R_base ho0) hb)
 have n1_ := Aside0.mk (Kd.R_elder' zv18 (Kd.R_base ho0) hb)
 have n2_ := Aside0.mk (Kd.R_lower (Kd.R_new' (Kd.R_new' ho0 (Kd.R_lt zv16)) (Kd.R_lt zv18)) (below_size zv6))
 have n3_ := Aside0.mk (blk_below (g := gb511) (o := .cells #[.int .i64 a0_0, .int .i64 a0_1, .slice A0_2 l0_2.length c0_2] 24 (0, 0)) zv2 hb)
 have n4_ := Aside0.mk (blk_below (g := gb512) (o := .cells #[.int .i64 a1_0, .int .i64 a1_1] 26 (0, 0)) zv4 hb)
 have n5_ := Aside0.mk (below_step zv6 hb)
 clear HO518
 clear HO523
 clear BK511
 clear BK512
 clear HB
 have HO518 := n0_
 have HO523 := n1_
 have HO526 := n2_
 have BK511 := n3_
 have BK512 := n4_
 have HB := n5_
 clear n0_ n1_ n2_ n3_ n4_ n5_
 (try clear hb)
 (try clear hb2)
 (try clear hk)
 (try clear hi)
 (try clear ho0)
 (try clear hna_)
 (try clear hnb_)
 refine hK.out _ _ ⟨(blk_cell BK511.out 0).trans rfl, (blk_cell BK511.out 1).trans rfl, (blk_cell BK511.out 2).trans rfl, (blk_cell BK512.out 0).trans rfl, (blk_cell BK512.out 1).trans rfl⟩ (fun hHeld => ?_)
 clear hK K
 refine norm_ (a' := ?_) ?_ ?_
 rotate_left
 ·show Act.put _ (some 34) _ = _
  simp only [Act.put, List.setIfInBounds_toArray, List.set_cons_zero, List.set_cons_succ, i64_w, i32_w]
  rfl
 refine pure_ (i := 7) (N := some 27) (v := ?_) (a' := ?_) #[true, true, true, true, true, true, true, true, false, false, false, false] rfl rfl (any_of HT_.out (by kernel_rfl)) (fun _ _ _ h => h) (Or.inl ⟨by rfl, ?_⟩) ?_ ?_
 rotate_left
 ·intro w'
  go_simp
  with_reducible rfl
 rotate_left
 ·simp only [Act.put, List.setIfInBounds_toArray, List.set_cons_zero, List.set_cons_succ, i64_w, i32_w]
  rfl
 refine pure_ (i := 8) (N := some 35) (v := ?_) (a' := ?_) #[true, true, true, true, true, true, true, true, true, false, false, false] rfl rfl (any_of HT_.out (by kernel_rfl)) (fun _ _ _ h => h) (Or.inl ⟨by rfl, ?_⟩) ?_ ?_
 rotate_left
 ·intro w'
  go_simp
  with_reducible rfl
 rotate_left
 ·simp only [Act.put, List.setIfInBounds_toArray, List.set_cons_zero, List.set_cons_succ, i64_w, i32_w]
  rfl
 refine pure_ (i := 9) (N := some 36) (v := ?_) (a' := ?_) #[true, true, true, true, true, true, true, true, true, true, false, false] rfl rfl (any_of HT_.out (by kernel_rfl)) (fun _ _ _ h => h) (Or.inl ⟨by rfl, ?_⟩) ?_ ?_
 rotate_left
 ·intro w'
  go_simp
  with_reducible rfl
 rotate_left
 ·simp only [Act.put, List.setIfInBounds_toArray, List.set_cons_zero, List.set_cons_succ, i64_w, i32_w]
  rfl
 refine pure_ (i := 10) (N := some 8) (v := ?_) (a' := ?_) #[true, true, true, true, true, true, true, true, true, true, true, false] rfl rfl (any_of HT_.out (by kernel_rfl)) (fun _ _ _ h => h) (Or.inl ⟨by rfl, ?_⟩) ?_ ?_
 rotate_left
 ·intro w'
  go_simp
  with_reducible rfl
 rotate_left
 ·simp only [Act.put, List.setIfInBounds_toArray, List.set_cons_zero, List.set_cons_succ, i64_w, i32_w]
  rfl
 refine pure_ (i := 11) (N := some 9) (v := ?_) (a' := ?_) #[true, true, true, true, true, true, true, true, true, true, true, true] rfl rfl (any_of HT_.out (by kernel_rfl)) (fun _ _ _ h => h) (Or.inl ⟨by rfl, ?_⟩) ?_ ?_
 rotate_left
 ·intro w'
  go_simp
  with_reducible rfl
 rotate_left
 ·simp only [Act.put, List.setIfInBounds_toArray, List.set_cons_zero, List.set_cons_succ, i64_w, i32_w]
  rfl
 refine done_ (done_of HT_.out (by kernel_rfl)) ?_
 have hcz35_0 : w34.cell? ⟨gb511, 0, none⟩ = some (.int .i64 a0_0) := (blk_cell BK511.out 0).trans rfl
 have hcz35_1 : w34.cell? ⟨gb511, 1, none⟩ = some (.int .i64 a0_1) := (blk_cell BK511.out 1).trans rfl
 have hcz35_2 : w34.cell? ⟨gb511, 2, none⟩ = some (.slice A0_2 l0_2.length c0_2) := (blk_cell BK511.out 2).trans rfl
 have hfz35_0 := blk_frozen BK511.out 0
 have hfz35_1 := blk_frozen BK511.out 1
 have hfz35_2 := blk_frozen BK511.out 2
 try go_wp2_with (first | ((with_reducible refine gate_callee (f := 17) rfl ?_); refine goesL_ (some 38) rfl rfl Try.func17 (by kernel_rfl) rfl #[.agg #[.int .i64 a0_0, .int .i64 a0_1, .slice A0_2 l0_2.length c0_2]] rfl zv3 ?_; (with_reducible refine (laws_toBoard.calls k a0_0 a0_1 _ _ l0_2 t528 t529 t530 _ ?side1 ?side2 A18.out).mono ?_); (case side1 => exact zv13); (case side2 => exact HC0_2.out); rintro e w36 ⟨v531, rfl, ho0, hb⟩; refine ⟨_, rfl, ?_⟩; have n0_ := Aside0.mk (Kd.R_elder' zv16 (Kd.R_base ho0) hb); have n1_ := Aside0.mk (Kd.R_elder' zv18 (Kd.R_base ho0) hb); have n2_ := Aside0.mk (Kd.R_elder' zv20 (Kd.R_base ho0) hb); have n3_ := Aside0.mk (Kd.R_lower (Kd.R_new' (Kd.R_new' (Kd.R_new' ho0 (Kd.R_lt zv16)) (Kd.R_lt zv18)) (Kd.R_lt zv20)) (below_size zv6)); have n4_ := Aside0.mk (blk_below (g := gb511) (o := .cells #[.int .i64 a0_0, .int .i64 a0_1, .slice A0_2 l0_2.length c0_2] 24 (0, 0)) zv2 hb); have n5_ := Aside0.mk (blk_below (g := gb512) (o := .cells #[.int .i64 a1_0, .int .i64 a1_1] 26 (0, 0)) zv4 hb); have n6_ := Aside0.mk (below_step zv6 hb); clear HO518; clear HO523; clear HO526; clear BK511; clear BK512; clear HB; have HO518 := n0_; have HO523 := n1_; have HO526 := n2_; have HO532 := n3_; have BK511 := n4_; have BK512 := n5_; have HB := n6_; clear n0_ n1_ n2_ n3_ n4_ n5_ n6_; (try clear hb); (try clear hb2); (try clear hk); (try clear hi); (try clear ho0); (try clear hna_); (try clear hnb_)) | ((with_reducible refine gate_dst (N := 10) rfl ?_); refine box_event ?hg (N := 10) ?hd (cs := #[.int .i64 0, .int .i64 0, .slice none 0 0]) (t := 30) ?hr ?_; (case hd => rfl); (case hg => rfl); (case hr => first | (go_simp; done) | (go_simp; rfl)); intro gb533 hg w37 hbox hb; have n0_ := Aside0.mk (Kd.R_below zv16 hb); have n1_ := Aside0.mk (Kd.R_below zv18 hb); have n2_ := Aside0.mk (Kd.R_below zv20 hb); have n3_ := Aside0.mk (Kd.R_below zv31 hb); have n4_ := Aside0.mk (blk_below (g := gb511) (o := .cells #[.int .i64 a0_0, .int .i64 a0_1, .slice A0_2 l0_2.length c0_2] 24 (0, 0)) zv2 hb); have n5_ := Aside0.mk (blk_below (g := gb512) (o := .cells #[.int .i64 a1_0, .int .i64 a1_1] 26 (0, 0)) zv4 hb); have n6_ := Aside0.mk (below_step zv6 hb); have n7_ := Aside0.mk (hbox); have n8_ := Aside0.mk ((by rw [hg]; exact (below_size zv6) : w.heap.size ≤ gb533)); have n9_ := Aside0.mk ((by rw [hg]; exact (below_size zv6) : w.heap.size ≤ gb533)); have n10_ := Aside0.mk ((zv52 : gb511 ≠ gb533)); have n11_ := Aside0.mk ((zv53 : gb533 ≠ gb511)); have n12_ := Aside0.mk ((by rw [hg]; exact Nat.ne_of_lt (blk_lt (g := gb512) (o := .cells #[.int .i64 a1_0, .int .i64 a1_1] 26 (0, 0)) zv4) : gb512 ≠ gb533)); have n13_ := Aside0.mk ((by rw [hg]; exact Nat.ne_of_gt (blk_lt (g := gb512) (o := .cells #[.int .i64 a1_0, .int .i64 a1_1] 26 (0, 0)) zv4) : gb533 ≠ gb512)); clear HO518; clear HO523; clear HO526; clear HO532; clear BK511; clear BK512; clear HB; have HO518 := n0_; have HO523 := n1_; have HO526 := n2_; have HO532 := n3_; have BK511 := n4_; have BK512 := n5_; have HB := n6_; have BK533 := n7_; have GW533 := n8_; have GE533 := n9_; have NB511_533 := n10_; have NB533_511 := n11_; have NB512_533 := n12_; have NB533_512 := n13_; clear n0_ n1_ n2_ n3_ n4_ n5_ n6_ n7_ n8_ n9_ n10_ n11_ n12_ n13_; clear hb hbox hg; have hnb38 := NB533_511.out; have hnc38 := NB511_533.out; have hnb39 := NB533_512.out; have hnc39 := NB512_533.out; have hcz40_0 : w37.cell? ⟨gb533, 0, none⟩ = some (.int .i64 0) := (blk_cell BK533.out 0).trans rfl; have hcz40_1 : w37.cell? ⟨gb533, 1, none⟩ = some (.int .i64 0) := (blk_cell BK533.out 1).trans rfl; have hcz40_2 : w37.cell? ⟨gb533, 2, none⟩ = some (.slice none 0 0) := (blk_cell BK533.out 2).trans rfl; have hfz40_0 := blk_frozen BK533.out 0; have hfz40_1 := blk_frozen BK533.out 1; have hfz40_2 := blk_frozen BK533.out 2; obtain ⟨Ao41, co41, eo41⟩ := Kd.R_slice HO532.out; subst eo41) | ((with_reducible refine gate_callee (f := 19) rfl ?_); refine goesL_ (some 40) rfl rfl Try.func19 (by kernel_rfl) rfl #[.slice A2 l2.length c2] rfl zv3 ?_; (with_reducible refine (laws_toIntS.calls k _ _ l2 t534 _ ?side1 ?side2 A19.out).mono ?_); (case side1 => exact Kd.C_below HR2.out zv1); (case side2 => exact HC2.out); rintro e w42 ⟨v535, rfl, ho0, hb⟩; refine ⟨_, rfl, ?_⟩; have n0_ := Aside0.mk (Kd.R_elder' zv27 (Kd.R_base ho0) hb); have n1_ := Aside0.mk (Kd.R_elder' zv26 (Kd.R_base ho0) hb); have n2_ := Aside0.mk (Kd.R_elder' zv25 (Kd.R_base ho0) hb); have n3_ := Aside0.mk (Kd.R_elder' zv24 (Kd.R_base ho0) hb); have n4_ := Aside0.mk (Kd.R_lower (Kd.R_new' (Kd.R_new' (Kd.R_new' (Kd.R_new' ho0 (Kd.R_lt zv27)) (Kd.R_lt zv26)) (Kd.R_lt zv25)) (Kd.R_lt zv24)) (below_size zv1)); have n5_ := Aside0.mk (blk_below (g := gb511) (o := .cells #[.int .i64 a0_0, .int .i64 a0_1, .slice A0_2 l0_2.length c0_2] 24 (0, 0)) (by (with_reducible repeat (first | refine blk_drewN ?_ _ | refine blk_drew ?_ | refine blk_alloc ?_ _)); refine blk_far ?_ NB511_533.out _; (with_reducible repeat (first | refine blk_drewN ?_ _ | refine blk_drew ?_ | refine blk_alloc ?_ _)); refine blk_far ?_ NB511_533.out _; (with_reducible repeat (first | refine blk_drewN ?_ _ | refine blk_drew ?_ | refine blk_alloc ?_ _)); refine blk_far ?_ NB511_533.out _; (with_reducible repeat (first | refine blk_drewN ?_ _ | refine blk_drew ?_ | refine blk_alloc ?_ _)); exact BK511.out) hb); have n6_ := Aside0.mk (blk_below (g := gb512) (o := .cells #[.int .i64 a1_0, .int .i64 a1_1] 26 (0, 0)) (by (with_reducible repeat (first | refine blk_drewN ?_ _ | refine blk_drew ?_ | refine blk_alloc ?_ _)); refine blk_far ?_ NB512_533.out _; (with_reducible repeat (first | refine blk_drewN ?_ _ | refine blk_drew ?_ | refine blk_alloc ?_ _)); refine blk_far ?_ NB512_533.out _; (with_reducible repeat (first | refine blk_drewN ?_ _ | refine blk_drew ?_ | refine blk_alloc ?_ _)); refine blk_far ?_ NB512_533.out _; (with_reducible repeat (first | refine blk_drewN ?_ _ | refine blk_drew ?_ | refine blk_alloc ?_ _)); exact BK512.out) hb); have n7_ := Aside0.mk (blk_below (g := gb533) (o := .cells #[.int .i64 t528, .int .i64 t529, .slice Ao41 t530.length co41] 30 (0, 0)) (by (with_reducible repeat (first | refine blk_drewN ?_ _ | refine blk_drew ?_ | refine blk_alloc ?_ _)); refine blk_put (cs := #[.int .i64 t528, .int .i64 t529, .slice none 0 0]) ?_ 2 _ rfl; (with_reducible repeat (first | refine blk_drewN ?_ _ | refine blk_drew ?_ | refine blk_alloc ?_ _)); refine blk_put (cs := #[.int .i64 t528, .int .i64 0, .slice none 0 0]) ?_ 1 _ rfl; (with_reducible repeat (first | refine blk_drewN ?_ _ | refine blk_drew ?_ | refine blk_alloc ?_ _)); refine blk_put (cs := #[.int .i64 0, .int .i64 0, .slice none 0 0]) ?_ 0 _ rfl; (with_reducible repeat (first | refine blk_drewN ?_ _ | refine blk_drew ?_ | refine blk_alloc ?_ _)); exact BK533.out) hb); have n8_ := Aside0.mk (below_step zv1 hb); clear HO518; clear HO523; clear HO526; clear HO532; clear BK511; clear BK512; clear BK533; clear HB; have HO518 := n0_; have HO523 := n1_; have HO526 := n2_; have HO532 := n3_; have HO536 := n4_; have BK511 := n5_; have BK512 := n6_; have BK533 := n7_; have HB := n8_; clear n0_ n1_ n2_ n3_ n4_ n5_ n6_ n7_ n8_; (try clear hb); (try clear hb2); (try clear hk); (try clear hi); (try clear ho0); (try clear hna_); (try clear hnb_)))
 have n0_ := Aside0.mk (Kd.R_drew HO518.out)
 have n1_ := Aside0.mk (Kd.R_drew HO523.out)
 have n2_ := Aside0.mk (Kd.R_drew HO526.out)
 have n3_ := Aside0.mk (Kd.R_drew HO532.out)
 have n4_ := Aside0.mk (Kd.R_drew HO536.out)
 have n5_ := Aside0.mk (blk_drew BK511.out)
 have n6_ := Aside0.mk (blk_drew BK512.out)
 have n7_ := Aside0.mk (blk_drew BK533.out)
 have n8_ := Aside0.mk (below_drew1 HB.out)
 clear HO518
 clear HO523
 clear HO526
 clear HO532
 clear HO536
 clear BK511
 clear BK512
 clear BK533
 clear HB
 have HO518 := n0_
 have HO523 := n1_
 have HO526 := n2_
 have HO532 := n3_
 have HO536 := n4_
 have BK511 := n5_
 have BK512 := n6_
 have BK533 := n7_
 have HB := n8_
 clear n0_ n1_ n2_ n3_ n4_ n5_ n6_ n7_ n8_
 refine start_ (n := 10) (S := fun w' => w'.cell? ⟨gb533, 0, none⟩ = some (.int .i64 t528) ∧ w'.cell? ⟨gb533, 1, none⟩ = some (.int .i64 t529) ∧ w'.cell? ⟨gb533, 2, none⟩ = some (.slice Ao41 t530.length co41) ∧ w'.cell? ⟨gb512, 0, none⟩ = some (.int .i64 a1_0) ∧ w'.cell? ⟨gb512, 1, none⟩ = some (.int .i64 a1_1)) (ds := []) #[false, false, false, false, false, false, false, false, false, false] (by kernel_rfl) rfl rfl ⟨(blk_cell BK533.out 0).trans rfl, (blk_cell BK533.out 1).trans rfl, (blk_cell BK533.out 2).trans rfl, (blk_cell BK512.out 0).trans rfl, (blk_cell BK512.out 1).trans rfl⟩ (fun hHeld => ?_); refine with_tabW laws_FnExactTailTurns.tab10 laws_FnExactTailTurns.bits10 (fun HT_ HW_ => ?_)
 generalize w42.drew = w43 at HO518 HO523 HO526 HO532 HO536 BK511 BK512 BK533 HB hHeld ⊢
 refine pure_ (i := 3) (N := some 45) (v := ?_) (a' := ?_) #[false, false, false, true, false, false, false, false, false, false] rfl rfl (any_of HT_.out (by kernel_rfl)) (fun _ _ _ h => h) (Or.inl ⟨by rfl, ?_⟩) ?_ ?_
 rotate_left
 ·intro w'
  go_simp
  with_reducible rfl
 rotate_left
 ·simp only [Act.put, List.setIfInBounds_toArray, List.set_cons_zero, List.set_cons_succ, i64_w, i32_w]
  rfl
 refine take_ (i := 0) (N := some 42) (v := ?_) (a' := ?_) #[true, false, false, true, false, false, false, false, false, false] rfl rfl (take_ofW HT_.out HW_.out (by kernel_rfl)) (fun _ _ _ h => h) (Or.inl ⟨by rfl, ?_⟩) hHeld ?_ ?_
 rotate_left
 ·rintro w' ⟨s0, s1, s2, s3, s4⟩
  go_simp
  with_reducible rfl
 rotate_left
 ·simp only [Act.put, List.setIfInBounds_toArray, List.set_cons_zero, List.set_cons_succ, i64_w, i32_w]
  rfl
 refine take_ (i := 1) (N := some 43) (v := ?_) (a' := ?_) #[true, true, false, true, false, false, false, false, false, false] rfl rfl (take_ofW HT_.out HW_.out (by kernel_rfl)) (fun _ _ _ h => h) (Or.inl ⟨by rfl, ?_⟩) hHeld ?_ ?_
 rotate_left
 ·rintro w' ⟨s0, s1, s2, s3, s4⟩
  go_simp
  with_reducible rfl
 rotate_left
 ·simp only [Act.put, List.setIfInBounds_toArray, List.set_cons_zero, List.set_cons_succ, i64_w, i32_w]
  rfl
 refine one_ (i := 2) (N := some 44) #[true, true, true, true, false, false, false, false, false, false] rfl rfl (one_of HT_.out (by kernel_rfl)) (by decide) (fun K hK => ?_)
 refine goes_ Try.func18 (by kernel_rfl) rfl #[.agg #[.int .i64 a1_0, .int .i64 a1_1]] (by rfl) rfl rfl zv3 ?_
 with_reducible refine (laws_toLeaper.calls a1_0 a1_1 t537 t538 _ A20.out).mono ?_
 rintro e w44 ⟨rfl, hb⟩
 refine ⟨_, rfl, ?_⟩
 have n0_ := Aside0.mk (Kd.R_below zv16 hb)
 have n1_ := Aside0.mk (Kd.R_below zv18 hb)
 have n2_ := Aside0.mk (Kd.R_below zv20 hb)
 have n3_ := Aside0.mk (Kd.R_below zv31 hb)
 have n4_ := Aside0.mk (Kd.R_below zv36 hb)
 have n5_ := Aside0.mk (blk_below (g := gb511) (o := .cells #[.int .i64 a0_0, .int .i64 a0_1, .slice A0_2 l0_2.length c0_2] 24 (0, 0)) zv2 hb)
 have n6_ := Aside0.mk (blk_below (g := gb512) (o := .cells #[.int .i64 a1_0, .int .i64 a1_1] 26 (0, 0)) zv4 hb)
 have n7_ := Aside0.mk (blk_below (g := gb533) (o := .cells #[.int .i64 t528, .int .i64 t529, .slice Ao41 t530.length co41] 30 (0, 0)) zv7 hb)
 have n8_ := Aside0.mk (below_step zv1 hb)
 clear HO518
 clear HO523
 clear HO526
 clear HO532
 clear HO536
 clear BK511
 clear BK512
 clear BK533
 clear HB
 have HO518 := n0_
 have HO523 := n1_
 have HO526 := n2_
 have HO532 := n3_
 have HO536 := n4_
 have BK511 := n5_
 have BK512 := n6_
 have BK533 := n7_
 have HB := n8_
 clear n0_ n1_ n2_ n3_ n4_ n5_ n6_ n7_ n8_
 (try clear hb)
 (try clear hb2)
 (try clear hk)
 (try clear hi)
 (try clear hna_)
 (try clear hnb_)
 obtain ⟨Ao45, co45, eo45⟩ := Kd.R_slice HO536.out
 (first | subst eo45 | (injection eo45 with f1_ f2_ f3_; have f4_ := f1_.symm; have f5_ := f3_.symm; clear f1_ f2_ f3_; subst f4_; subst f5_))
 refine hK.out _ _ ⟨(blk_cell BK533.out 0).trans rfl, (blk_cell BK533.out 1).trans rfl, (blk_cell BK533.out 2).trans rfl, (blk_cell BK512.out 0).trans rfl, (blk_cell BK512.out 1).trans rfl⟩ (fun hHeld => ?_)
 clear hK K
 refine norm_ (a' := ?_) ?_ ?_
 rotate_left
 ·show Act.put _ (some 44) _ = _
  simp only [Act.put, List.setIfInBounds_toArray, List.set_cons_zero, List.set_cons_succ, i64_w, i32_w]
  rfl
 refine one_ (i := 4) (N := some 46) #[true, true, true, true, true, false, false, false, false, false] rfl rfl (one_of HT_.out (by kernel_rfl)) (by decide) (fun K hK => ?_)
 refine goes_ Try.func29 (by kernel_rfl) rfl #[.agg #[.int .i64 t528, .int .i64 t529, .slice Ao41 t530.length co41], .agg #[.int .i64 t537, .int .i64 t538], .slice Ao45 t534.length co45] (by rfl) rfl rfl zv3 ?_
 with_reducible refine (impl_TailTurns.calls k t528 t529 _ _ t530 t537 t538 _ _ t534 t539 t542 _ ?side1 ?side2 ?side3 ?side4 A21.out).mono ?_
 (case side1 => repeat (first | exact (Kd.R_reads' HO532.out).2.2 | (with_reducible refine Kd.C_alloc ?_ _) | (with_reducible refine Kd.C_drewN ?_ _) | (with_reducible refine Kd.C_drew ?_)))
 (case side2 => exact (Kd.R_reads' HO532.out).2.1)
 (case side3 => repeat (first | exact (Kd.R_reads' HO536.out).2.2 | (with_reducible refine Kd.C_alloc ?_ _) | (with_reducible refine Kd.C_drewN ?_ _) | (with_reducible refine Kd.C_drew ?_)))
 (case side4 => exact (Kd.R_reads' HO536.out).2.1)
 rintro e w46 ⟨v540, rfl, ho0, hb⟩
 refine ⟨_, rfl, ?_⟩
 have n0_ := Aside0.mk (Kd.R_elder' zv16 (Kd.R_base ho0) hb)
 have n1_ := Aside0.mk (Kd.R_elder' zv18 (Kd.R_base ho0) hb)
 have n2_ := Aside0.mk (Kd.R_elder' zv20 (Kd.R_base ho0) hb)
 have n3_ := Aside0.mk (Kd.R_elder' zv31 (Kd.R_base ho0) hb)
 have n4_ := Aside0.mk (Kd.R_elder' zv36 (Kd.R_base ho0) hb)
 have n5_ := Aside0.mk (Kd.R_lower (Kd.R_new' (Kd.R_new' (Kd.R_new' (Kd.R_new' (Kd.R_new' ho0 (Kd.R_lt zv16)) (Kd.R_lt zv18)) (Kd.R_lt zv20)) (Kd.R_lt zv31)) (Kd.R_lt zv36)) (below_size zv1))
 have n6_ := Aside0.mk (blk_below (g := gb511) (o := .cells #[.int .i64 a0_0, .int .i64 a0_1, .slice A0_2 l0_2.length c0_2] 24 (0, 0)) zv2 hb)
 have n7_ := Aside0.mk (blk_below (g := gb512) (o := .cells #[.int .i64 a1_0, .int .i64 a1_1] 26 (0, 0)) zv4 hb)
 have n8_ := Aside0.mk (blk_below (g := gb533) (o := .cells #[.int .i64 t528, .int .i64 t529, .slice Ao41 t530.length co41] 30 (0, 0)) zv7 hb)
 have n9_ := Aside0.mk (below_step zv1 hb)
 clear HO518
 clear HO523
 clear HO526
 clear HO532
 clear HO536
 clear BK511
 clear BK512
 clear BK533
 clear HB
 have HO518 := n0_
 have HO523 := n1_
 have HO526 := n2_
 have HO532 := n3_
 have HO536 := n4_
 have HO541 := n5_
 have BK511 := n6_
 have BK512 := n7_
 have BK533 := n8_
 have HB := n9_
 clear n0_ n1_ n2_ n3_ n4_ n5_ n6_ n7_ n8_ n9_
 (try clear hb)
 (try clear hb2)
 (try clear hk)
 (try clear hi)
 (try clear ho0)
 (try clear hna_)
 (try clear hnb_)
 refine hK.out _ _ ⟨(blk_cell BK533.out 0).trans rfl, (blk_cell BK533.out 1).trans rfl, (blk_cell BK533.out 2).trans rfl, (blk_cell BK512.out 0).trans rfl, (blk_cell BK512.out 1).trans rfl⟩ (fun hHeld => ?_)
 clear hK K
 refine norm_ (a' := ?_) ?_ ?_
 rotate_left
 ·show Act.put _ (some 46) _ = _
  simp only [Act.put, List.setIfInBounds_toArray, List.set_cons_zero, List.set_cons_succ, i64_w, i32_w]
  rfl
 refine pure_ (i := 5) (N := some 41) (v := ?_) (a' := ?_) #[true, true, true, true, true, true, false, false, false, false] rfl rfl (any_of HT_.out (by kernel_rfl)) (fun _ _ _ h => h) (Or.inl ⟨by rfl, ?_⟩) ?_ ?_
 rotate_left
 ·intro w'
  go_simp
  with_reducible rfl
 rotate_left
 ·simp only [Act.put, List.setIfInBounds_toArray, List.set_cons_zero, List.set_cons_succ, i64_w, i32_w]
  rfl
 refine pure_ (i := 6) (N := some 47) (v := ?_) (a' := ?_) #[true, true, true, true, true, true, true, false, false, false] rfl rfl (any_of HT_.out (by kernel_rfl)) (fun _ _ _ h => h) (Or.inl ⟨by rfl, ?_⟩) ?_ ?_
 rotate_left
 ·intro w'
  go_simp
  with_reducible rfl
 rotate_left
 ·simp only [Act.put, List.setIfInBounds_toArray, List.set_cons_zero, List.set_cons_succ, i64_w, i32_w]
  rfl
 refine pure_ (i := 7) (N := some 48) (v := ?_) (a' := ?_) #[true, true, true, true, true, true, true, true, false, false] rfl rfl (any_of HT_.out (by kernel_rfl)) (fun _ _ _ h => h) (Or.inl ⟨by rfl, ?_⟩) ?_ ?_
 rotate_left
 ·intro w'
  go_simp
  with_reducible rfl
 rotate_left
 ·simp only [Act.put, List.setIfInBounds_toArray, List.set_cons_zero, List.set_cons_succ, i64_w, i32_w]
  rfl
 refine pure_ (i := 8) (N := some 12) (v := ?_) (a' := ?_) #[true, true, true, true, true, true, true, true, true, false] rfl rfl (any_of HT_.out (by kernel_rfl)) (fun _ _ _ h => h) (Or.inl ⟨by rfl, ?_⟩) ?_ ?_
 rotate_left
 ·intro w'
  go_simp
  with_reducible rfl
 rotate_left
 ·simp only [Act.put, List.setIfInBounds_toArray, List.set_cons_zero, List.set_cons_succ, i64_w, i32_w]
  rfl
 refine pure_ (i := 9) (N := some 13) (v := ?_) (a' := ?_) #[true, true, true, true, true, true, true, true, true, true] rfl rfl (any_of HT_.out (by kernel_rfl)) (fun _ _ _ h => h) (Or.inl ⟨by rfl, ?_⟩) ?_ ?_
 rotate_left
 ·intro w'
  go_simp
  with_reducible rfl
 rotate_left
 ·simp only [Act.put, List.setIfInBounds_toArray, List.set_cons_zero, List.set_cons_succ, i64_w, i32_w]
  rfl
 refine done_ (done_of HT_.out (by kernel_rfl)) ?_
 go_upto_region 11 with (fail)
 go_cut [57] (fun v57 wc => ∃ (kq : Nat) (x57_21 : Bool), v57 = .bool x57_21 ∧ Aside0 (laws_FnExactTailTurns.j0 kq l2 t524 t527 t534 t539 t542 x57_21 a0_0 a0_1 l0_2 a1_0 a1_1 t528 t529 t530 = some r) ∧ Aside0 (kq ≤ k) ∧ Aside0 (Kd.R (Kd.int .i64) 3 wc w.heap.size (fun k_ => some k_ ≠ ((.slice Ao45 t534.length co45) : Value).ownBlock ∧ some k_ ≠ (v540 : Value).ownBlock ∧ some k_ ≠ ((.slice Ao41 t530.length co41) : Value).ownBlock) v525 t524) ∧ Aside0 (Kd.R (Kd.int .i64) 3 wc w.heap.size (fun k_ => some k_ ≠ (v525 : Value).ownBlock ∧ some k_ ≠ (v540 : Value).ownBlock ∧ some k_ ≠ ((.slice Ao41 t530.length co41) : Value).ownBlock) (.slice Ao45 t534.length co45) t534) ∧ Aside0 (Kd.R (Kd.int .i64) 3 wc w.heap.size (fun k_ => some k_ ≠ (v525 : Value).ownBlock ∧ some k_ ≠ ((.slice Ao45 t534.length co45) : Value).ownBlock ∧ some k_ ≠ ((.slice Ao41 t530.length co41) : Value).ownBlock) v540 t539) ∧ Aside0 (Kd.R (Kd.int .i64) 3 wc w.heap.size (fun k_ => some k_ ≠ (v525 : Value).ownBlock ∧ some k_ ≠ ((.slice Ao45 t534.length co45) : Value).ownBlock ∧ some k_ ≠ (v540 : Value).ownBlock) (.slice Ao41 t530.length co41) t530) ∧ Aside0 (wc.heap[gb511]? = some (.cells #[.int .i64 a0_0, .int .i64 a0_1, (.slice A0_2 l0_2.length c0_2)] 24 (0, 0))) ∧ Aside0 (wc.heap[gb512]? = some (.cells #[.int .i64 a1_0, .int .i64 a1_1] 26 (0, 0))) ∧ Aside0 (wc.heap[gb533]? = some (.cells #[.int .i64 t528, .int .i64 t529, (.slice Ao41 t530.length co41)] 30 (0, 0))) ∧ Aside0 (Below w.heap.size w wc))
 case first =>
  have H := HC22.out
  clear HC22
  replace H := Option.bind_eq_some_iff.mp H
  obtain ⟨t543, A470, H⟩ := H
  replace H : (if t543 = true then (laws_FnExactTailTurns.j0 k l2 t524 t527 t534 t539 t542 (t542 != t527) a0_0 a0_1 l0_2 a1_0 a1_1 t528 t529 t530) else (laws_FnExactTailTurns.j0 k l2 t524 t527 t534 t539 t542 true a0_0 a0_1 l0_2 a1_0 a1_1 t528 t529 t530)) = some r := H
  have A47 := Aside0.mk A470
  clear A470
  by_cases c48 : t543 = true
  ·subst c48
   have H1 : (laws_FnExactTailTurns.j0 k l2 t524 t527 t534 t539 t542 (t542 != t527) a0_0 a0_1 l0_2 a1_0 a1_1 t528 t529 t530) = some r := by rw [if_pos rfl] at H; exact H
   clear H
   have H := H1
   clear H1
   have H' := Aside0.mk H
   clear H
   obtain ⟨Ao49, co49, eo49⟩ := Kd.R_slice HO541.out
   subst eo49
   obtain ⟨Ao50, co50, eo50⟩ := Kd.R_slice HO526.out
   subst eo50
   go_wp2_with (first | ((with_reducible refine gate_callee (f := 21) rfl ?_); refine goesL_ (some 51) rfl rfl Try.func21 (by kernel_rfl) rfl #[.slice Ao49 t539.length co49, .slice Ao50 t524.length co50] rfl zv3 ?_; (with_reducible refine (laws_eqIntS.calls k _ _ t539 _ _ t524 true _ ?side1 ?side2 ?side3 ?side4 A47.out).mono ?_); (case side1 => exact zv47); (case side2 => exact (Kd.R_reads' HO541.out).2.1); (case side3 => exact zv48); (case side4 => exact (Kd.R_reads' HO526.out).2.1); rintro e w' ⟨rfl, ⟨nd, rfl⟩⟩; refine ⟨_, rfl, ?_⟩))
   go_meet
   case rel => exact ⟨_, ((t542 != t527)), zv35, H', ⟨by first | omega | exact Nat.le_refl _⟩, ⟨zv43⟩, ⟨zv41⟩, ⟨zv40⟩, ⟨zv42⟩, ⟨zv2⟩, ⟨zv4⟩, ⟨zv7⟩, ⟨zv1⟩⟩
  replace c48 := Bool.eq_false_iff.mpr c48
  subst c48
  have H1 : (laws_FnExactTailTurns.j0 k l2 t524 t527 t534 t539 t542 true a0_0 a0_1 l0_2 a1_0 a1_1 t528 t529 t530) = some r := by rw [if_neg (show ¬ (false = true) by decide)] at H; exact H
  clear H
  have H := H1
  clear H1
  have H' := Aside0.mk H
  clear H
  obtain ⟨Ao51, co51, eo51⟩ := Kd.R_slice HO541.out
  subst eo51
  obtain ⟨Ao52, co52, eo52⟩ := Kd.R_slice HO526.out
  subst eo52
  go_wp2_with (first | ((with_reducible refine gate_callee (f := 21) rfl ?_); refine goesL_ (some 51) rfl rfl Try.func21 (by kernel_rfl) rfl #[.slice Ao51 t539.length co51, .slice Ao52 t524.length co52] rfl zv3 ?_; (with_reducible refine (laws_eqIntS.calls k _ _ t539 _ _ t524 false _ ?side1 ?side2 ?side3 ?side4 A47.out).mono ?_); (case side1 => exact zv47); (case side2 => exact (Kd.R_reads' HO541.out).2.1); (case side3 => exact zv48); (case side4 => exact (Kd.R_reads' HO526.out).2.1); rintro e w' ⟨rfl, ⟨nd, rfl⟩⟩; refine ⟨_, rfl, ?_⟩))
  go_meet
  case rel => exact ⟨_, (true), zv35, H', ⟨by first | omega | exact Nat.le_refl _⟩, ⟨zv43⟩, ⟨zv41⟩, ⟨zv40⟩, ⟨zv42⟩, ⟨zv2⟩, ⟨zv4⟩, ⟨zv7⟩, ⟨zv1⟩⟩
 case rest =>
  clear HC22
  try clear c1; try clear c2; try clear p2; try clear c3; try clear c4; try clear c4b0; try clear c4b1; try clear c5; try clear c8; try clear c8b0; try clear c11; try clear c15; try clear c17; try clear c18; try clear c19; try clear c21; try clear c25; try clear c28; try clear c29; try clear c38; try clear c39; try clear c48; try clear hcz12_0; try clear hcz12_1; try clear hcz12_2; try clear hcz26_0; try clear hcz26_1; try clear hcz26_2; try clear hcz35_0; try clear hcz35_1; try clear hcz35_2; try clear hcz40_0; try clear hcz40_1; try clear hcz40_2; try clear hfz12_0; try clear hfz12_1; try clear hfz12_2
  try clear hfz26_0; try clear hfz26_1; try clear hfz26_2; try clear hfz35_0; try clear hfz35_1; try clear hfz35_2; try clear hfz40_0; try clear hfz40_1; try clear hfz40_2
  obtain ⟨kq, x57_21, rfl, HA, HJ21, HO_8, HO_11, HO_12, HO_534002, BK511, BK512, BK533, HB⟩ := hcut
  cases kq with
  | zero => exact absurd HA.out (by simp [laws_FnExactTailTurns.j0])
  | succ kj21 =>
   have H := HA.out
   clear HA
   simp only [laws_FnExactTailTurns.j0] at H
   by_cases c53 : x57_21 = true
   ·subst c53
    have H1 : (some false) = some r := by rw [if_pos rfl] at H; exact H
    clear H
    have H := H1
    clear H1
    obtain rfl := Option.some.inj H
    go_wp2
    go_ret
    exact ⟨zv17, zv1⟩
   replace c53 := Bool.eq_false_iff.mpr c53
   subst c53
   have H1 : ((laws_toBoard.f kj21 a0_0 a0_1 l0_2).bind fun bt544 => ((laws_eqBoard.f kj21 t528 t529 t530 bt544.1 bt544.2.1 bt544.2.2).bind fun t549 => (if t549 = true then ((laws_toIntS.f kj21 l2).bind fun t550 => ((laws_eqIntS.f kj21 t534 t550).bind fun t553 => (if t553 = true then ((laws_markBoard.f kj21 t528 t529 t530 1).bind fun bt554 => ((laws_markIntS.f kj21 t534 bt554.1).bind fun bt556 => (if bt556.1 < 0 then (laws_FnExactTailTurns.j1 kj21 l2 t524 t527 t539 true a0_0 a0_1 l0_2 a1_0 a1_1) else ((laws_eqIntS.f kj21 t539 t524).bind fun t558 => (if t558 = true then (laws_FnExactTailTurns.j1 kj21 l2 t524 t527 t539 (t542 != t527) a0_0 a0_1 l0_2 a1_0 a1_1) else (laws_FnExactTailTurns.j1 kj21 l2 t524 t527 t539 true a0_0 a0_1 l0_2 a1_0 a1_1)))))) else (some false)))) else (some false)))) = some r := by rw [if_neg (show ¬ (false = true) by decide)] at H; exact H
   clear H
   have H := H1
   clear H1
   replace H := Option.bind_eq_some_iff.mp H
   obtain ⟨⟨t544, t545, t546⟩, A540, H⟩ := H
   replace H : ((laws_eqBoard.f kj21 t528 t529 t530 t544 t545 t546).bind fun t549 => (if t549 = true then ((laws_toIntS.f kj21 l2).bind fun t550 => ((laws_eqIntS.f kj21 t534 t550).bind fun t553 => (if t553 = true then ((laws_markBoard.f kj21 t528 t529 t530 1).bind fun bt554 => ((laws_markIntS.f kj21 t534 bt554.1).bind fun bt556 => (if bt556.1 < 0 then (laws_FnExactTailTurns.j1 kj21 l2 t524 t527 t539 true a0_0 a0_1 l0_2 a1_0 a1_1) else ((laws_eqIntS.f kj21 t539 t524).bind fun t558 => (if t558 = true then (laws_FnExactTailTurns.j1 kj21 l2 t524 t527 t539 (t542 != t527) a0_0 a0_1 l0_2 a1_0 a1_1) else (laws_FnExactTailTurns.j1 kj21 l2 t524 t527 t539 true a0_0 a0_1 l0_2 a1_0 a1_1)))))) else (some false)))) else (some false))) = some r := H
   have A54 := Aside0.mk A540
   clear A540
   replace H := Option.bind_eq_some_iff.mp H
   obtain ⟨t549, A550, H⟩ := H
   replace H : (if t549 = true then ((laws_toIntS.f kj21 l2).bind fun t550 => ((laws_eqIntS.f kj21 t534 t550).bind fun t553 => (if t553 = true then ((laws_markBoard.f kj21 t528 t529 t530 1).bind fun bt554 => ((laws_markIntS.f kj21 t534 bt554.1).bind fun bt556 => (if bt556.1 < 0 then (laws_FnExactTailTurns.j1 kj21 l2 t524 t527 t539 true a0_0 a0_1 l0_2 a1_0 a1_1) else ((laws_eqIntS.f kj21 t539 t524).bind fun t558 => (if t558 = true then (laws_FnExactTailTurns.j1 kj21 l2 t524 t527 t539 (t542 != t527) a0_0 a0_1 l0_2 a1_0 a1_1) else (laws_FnExactTailTurns.j1 kj21 l2 t524 t527 t539 true a0_0 a0_1 l0_2 a1_0 a1_1)))))) else (some false)))) else (some false)) = some r := H
   have A55 := Aside0.mk A550
   clear A550
   by_cases c56 : t549 = true
   rotate_left
   ·replace c56 := Bool.eq_false_iff.mpr c56
    subst c56
    have H1 : (some false) = some r := by rw [if_neg (show ¬ (false = true) by decide)] at H; exact H
    clear H
    have H := H1
    clear H1
    obtain rfl := Option.some.inj H
    try go_wp2
    have n0_ := Aside0.mk (Kd.R_drew HO_8.out)
    have n1_ := Aside0.mk (Kd.R_drew HO_11.out)
    have n2_ := Aside0.mk (Kd.R_drew HO_12.out)
    have n3_ := Aside0.mk (Kd.R_drew HO_534002.out)
    have n4_ := Aside0.mk (blk_drew BK511.out)
    have n5_ := Aside0.mk (blk_drew BK512.out)
    have n6_ := Aside0.mk (blk_drew BK533.out)
    have n7_ := Aside0.mk (below_drew1 HB.out)
    clear HO_8
    clear HO_11
    clear HO_12
    clear HO_534002
    clear BK511
    clear BK512
    clear BK533
    clear HB
    have HO_8 := n0_
    have HO_11 := n1_
    have HO_12 := n2_
    have HO_534002 := n3_
    have BK511 := n4_
    have BK512 := n5_
    have BK533 := n6_
    have HB := n7_
    clear n0_ n1_ n2_ n3_ n4_ n5_ n6_ n7_
    refine start_ (n := 5) (S := fun w' => w'.cell? ⟨gb533, 0, none⟩ = some (.int .i64 t528) ∧ w'.cell? ⟨gb533, 1, none⟩ = some (.int .i64 t529) ∧ w'.cell? ⟨gb533, 2, none⟩ = some (.slice Ao41 t530.length co41) ∧ w'.cell? ⟨gb511, 0, none⟩ = some (.int .i64 a0_0) ∧ w'.cell? ⟨gb511, 1, none⟩ = some (.int .i64 a0_1) ∧ w'.cell? ⟨gb511, 2, none⟩ = some (.slice A0_2 l0_2.length c0_2)) (ds := []) #[false, false, false, false, false] (by kernel_rfl) rfl rfl ⟨(blk_cell BK533.out 0).trans rfl, (blk_cell BK533.out 1).trans rfl, (blk_cell BK533.out 2).trans rfl, (blk_cell BK511.out 0).trans rfl, (blk_cell BK511.out 1).trans rfl, (blk_cell BK511.out 2).trans rfl⟩ (fun hHeld => ?_)
    generalize wc.drew = w120 at HO_8 HO_11 HO_12 HO_534002 BK511 BK512 BK533 HB hHeld ⊢
    refine take_ (i := 0) (N := some 58) (v := ?_) (a' := ?_) #[true, false, false, false, false] rfl rfl (by kernel_rfl) (fun _ _ _ h => h) (Or.inl ⟨by rfl, ?_⟩) hHeld ?_ ?_
    rotate_left
    ·rintro w' ⟨s0, s1, s2, s3, s4, s5⟩
     go_simp
     with_reducible rfl
    rotate_left
    ·simp only [Act.put, List.setIfInBounds_toArray, List.set_cons_zero, List.set_cons_succ, i64_w, i32_w]
     rfl
    refine take_ (i := 1) (N := some 59) (v := ?_) (a' := ?_) #[true, true, false, false, false] rfl rfl (by kernel_rfl) (fun _ _ _ h => h) (Or.inl ⟨by rfl, ?_⟩) hHeld ?_ ?_
    rotate_left
    ·rintro w' ⟨s0, s1, s2, s3, s4, s5⟩
     go_simp
     with_reducible rfl
    rotate_left
    ·simp only [Act.put, List.setIfInBounds_toArray, List.set_cons_zero, List.set_cons_succ, i64_w, i32_w]
     rfl
    refine one_ (i := 2) (N := some 60) #[true, true, true, false, false] rfl rfl (by kernel_rfl) (by decide) (fun K hK => ?_)
    refine goes_ Try.func17 (by kernel_rfl) rfl #[.agg #[.int .i64 a0_0, .int .i64 a0_1, .slice A0_2 l0_2.length c0_2]] (by rfl) rfl rfl zv3 ?_
    with_reducible refine (laws_toBoard.calls kj21 a0_0 a0_1 _ _ l0_2 t544 t545 t546 _ ?side1 ?side2 A54.out).mono ?_
    (case side1 => exact zv13)
    (case side2 => exact HC0_2.out)
    rintro e w121 ⟨v547, rfl, ho0, hb⟩
    refine ⟨_, rfl, ?_⟩
    have n0_ := Aside0.mk (Kd.R_elder' zv10 (Kd.R_base ho0) hb)
    have n1_ := Aside0.mk (Kd.R_elder' zv12 (Kd.R_base ho0) hb)
    have n2_ := Aside0.mk (Kd.R_elder' zv9 (Kd.R_base ho0) hb)
    have n3_ := Aside0.mk (Kd.R_elder' zv8 (Kd.R_base ho0) hb)
    have n4_ := Aside0.mk (Kd.R_lower (Kd.R_new' (Kd.R_new' (Kd.R_new' (Kd.R_new' ho0 (Kd.R_lt zv10)) (Kd.R_lt zv12)) (Kd.R_lt zv9)) (Kd.R_lt zv8)) (below_size zv1))
    have n5_ := Aside0.mk (blk_below (g := gb511) (o := .cells #[.int .i64 a0_0, .int .i64 a0_1, .slice A0_2 l0_2.length c0_2] 24 (0, 0)) zv2 hb)
    have n6_ := Aside0.mk (blk_below (g := gb512) (o := .cells #[.int .i64 a1_0, .int .i64 a1_1] 26 (0, 0)) zv4 hb)
    have n7_ := Aside0.mk (blk_below (g := gb533) (o := .cells #[.int .i64 t528, .int .i64 t529, .slice Ao41 t530.length co41] 30 (0, 0)) zv7 hb)
    have n8_ := Aside0.mk (below_step zv1 hb)
    clear HO_8
    clear HO_11
    clear HO_12
    clear HO_534002
    clear BK511
    clear BK512
    clear BK533
    clear HB
    have HO_8 := n0_
    have HO_11 := n1_
    have HO_12 := n2_
    have HO_534002 := n3_
    have HO548 := n4_
    have BK511 := n5_
    have BK512 := n6_
    have BK533 := n7_
    have HB := n8_
    clear n0_ n1_ n2_ n3_ n4_ n5_ n6_ n7_ n8_
    (try clear hb)
    (try clear hb2)
    (try clear hk)
    (try clear hi)
    (try clear ho0)
    (try clear hna_)
    (try clear hnb_)
    obtain ⟨Ao122, co122, eo122⟩ := Kd.R_slice HO548.out
    (first | subst eo122 | (injection eo122 with f1_ f2_ f3_; have f4_ := f1_.symm; have f5_ := f3_.symm; clear f1_ f2_ f3_; subst f4_; subst f5_))
    refine hK.out _ _ ⟨(blk_cell BK533.out 0).trans rfl, (blk_cell BK533.out 1).trans rfl, (blk_cell BK533.out 2).trans rfl, (blk_cell BK511.out 0).trans rfl, (blk_cell BK511.out 1).trans rfl, (blk_cell BK511.out 2).trans rfl⟩ (fun hHeld => ?_)
    clear hK K
    refine norm_ (a' := ?_) ?_ ?_
    rotate_left
    ·show Act.put _ (some 60) _ = _
     simp only [Act.put, List.setIfInBounds_toArray, List.set_cons_zero, List.set_cons_succ, i64_w, i32_w]
     rfl
    refine one_ (i := 3) (N := some 61) #[true, true, true, true, false] rfl rfl (by kernel_rfl) (by decide) (fun K hK => ?_)
    refine goes_ Try.func22 (by kernel_rfl) rfl #[.agg #[.int .i64 t528, .int .i64 t529, .slice Ao41 t530.length co41], .agg #[.int .i64 t544, .int .i64 t545, .slice Ao122 t546.length co122]] (by rfl) rfl rfl zv3 ?_
    with_reducible refine (laws_eqBoard.calls kj21 t528 t529 _ _ t530 t544 t545 _ _ t546 false _ ?side1 ?side2 ?side3 ?side4 A55.out).mono ?_
    (case side1 => exact zv29)
    (case side2 => exact (Kd.R_reads' HO_534002.out).2.1)
    (case side3 => exact zv30)
    (case side4 => exact (Kd.R_reads' HO548.out).2.1)
    rintro e w123 ⟨rfl, hb⟩
    refine ⟨_, rfl, ?_⟩
    have n0_ := Aside0.mk (Kd.R_below zv10 hb)
    have n1_ := Aside0.mk (Kd.R_below zv12 hb)
    have n2_ := Aside0.mk (Kd.R_below zv9 hb)
    have n3_ := Aside0.mk (Kd.R_below zv8 hb)
    have n4_ := Aside0.mk (Kd.R_below zv19 hb)
    have n5_ := Aside0.mk (blk_below (g := gb511) (o := .cells #[.int .i64 a0_0, .int .i64 a0_1, .slice A0_2 l0_2.length c0_2] 24 (0, 0)) zv2 hb)
    have n6_ := Aside0.mk (blk_below (g := gb512) (o := .cells #[.int .i64 a1_0, .int .i64 a1_1] 26 (0, 0)) zv4 hb)
    have n7_ := Aside0.mk (blk_below (g := gb533) (o := .cells #[.int .i64 t528, .int .i64 t529, .slice Ao41 t530.length co41] 30 (0, 0)) zv7 hb)
    have n8_ := Aside0.mk (below_step zv1 hb)
    clear HO_8
    clear HO_11
    clear HO_12
    clear HO_534002
    clear HO548
    clear BK511
    clear BK512
    clear BK533
    clear HB
    have HO_8 := n0_
    have HO_11 := n1_
    have HO_12 := n2_
    have HO_534002 := n3_
    have HO548 := n4_
    have BK511 := n5_
    have BK512 := n6_
    have BK533 := n7_
    have HB := n8_
    clear n0_ n1_ n2_ n3_ n4_ n5_ n6_ n7_ n8_
    (try clear hb)
    (try clear hb2)
    (try clear hk)
    (try clear hi)
    (try clear hna_)
    (try clear hnb_)
    refine hK.out _ _ ⟨(blk_cell BK533.out 0).trans rfl, (blk_cell BK533.out 1).trans rfl, (blk_cell BK533.out 2).trans rfl, (blk_cell BK511.out 0).trans rfl, (blk_cell BK511.out 1).trans rfl, (blk_cell BK511.out 2).trans rfl⟩ (fun hHeld => ?_)
    clear hK K
    refine norm_ (a' := ?_) ?_ ?_
    rotate_left
    ·show Act.put _ (some 61) _ = _
     simp only [Act.put, List.setIfInBounds_toArray, List.set_cons_zero, List.set_cons_succ, i64_w, i32_w]
     rfl
    refine pure_ (i := 4) (N := some 62) (v := ?_) (a' := ?_) #[true, true, true, true, true] rfl rfl (by kernel_rfl) (fun _ _ _ h => h) (Or.inl ⟨by rfl, ?_⟩) ?_ ?_
    rotate_left
    ·intro w'
     go_simp
     with_reducible rfl
    rotate_left
    ·simp only [Act.put, List.setIfInBounds_toArray, List.set_cons_zero, List.set_cons_succ, i64_w, i32_w]
     rfl
    refine done_ (by kernel_rfl) ?_
    try go_wp2
    go_ret
    exact ⟨zv17, zv1⟩
   subst c56
   have H1 : ((laws_toIntS.f kj21 l2).bind fun t550 => ((laws_eqIntS.f kj21 t534 t550).bind fun t553 => (if t553 = true then ((laws_markBoard.f kj21 t528 t529 t530 1).bind fun bt554 => ((laws_markIntS.f kj21 t534 bt554.1).bind fun bt556 => (if bt556.1 < 0 then (laws_FnExactTailTurns.j1 kj21 l2 t524 t527 t539 true a0_0 a0_1 l0_2 a1_0 a1_1) else ((laws_eqIntS.f kj21 t539 t524).bind fun t558 => (if t558 = true then (laws_FnExactTailTurns.j1 kj21 l2 t524 t527 t539 (t542 != t527) a0_0 a0_1 l0_2 a1_0 a1_1) else (laws_FnExactTailTurns.j1 kj21 l2 t524 t527 t539 true a0_0 a0_1 l0_2 a1_0 a1_1)))))) else (some false)))) = some r := by rw [if_pos rfl] at H; exact H
   clear H
   have H := H1
   clear H1
   replace H := Option.bind_eq_some_iff.mp H
   obtain ⟨t550, A570, H⟩ := H
   replace H : ((laws_eqIntS.f kj21 t534 t550).bind fun t553 => (if t553 = true then ((laws_markBoard.f kj21 t528 t529 t530 1).bind fun bt554 => ((laws_markIntS.f kj21 t534 bt554.1).bind fun bt556 => (if bt556.1 < 0 then (laws_FnExactTailTurns.j1 kj21 l2 t524 t527 t539 true a0_0 a0_1 l0_2 a1_0 a1_1) else ((laws_eqIntS.f kj21 t539 t524).bind fun t558 => (if t558 = true then (laws_FnExactTailTurns.j1 kj21 l2 t524 t527 t539 (t542 != t527) a0_0 a0_1 l0_2 a1_0 a1_1) else (laws_FnExactTailTurns.j1 kj21 l2 t524 t527 t539 true a0_0 a0_1 l0_2 a1_0 a1_1)))))) else (some false))) = some r := H
   have A57 := Aside0.mk A570
   clear A570
   replace H := Option.bind_eq_some_iff.mp H
   obtain ⟨t553, A580, H⟩ := H
   replace H : (if t553 = true then ((laws_markBoard.f kj21 t528 t529 t530 1).bind fun bt554 => ((laws_markIntS.f kj21 t534 bt554.1).bind fun bt556 => (if bt556.1 < 0 then (laws_FnExactTailTurns.j1 kj21 l2 t524 t527 t539 true a0_0 a0_1 l0_2 a1_0 a1_1) else ((laws_eqIntS.f kj21 t539 t524).bind fun t558 => (if t558 = true then (laws_FnExactTailTurns.j1 kj21 l2 t524 t527 t539 (t542 != t527) a0_0 a0_1 l0_2 a1_0 a1_1) else (laws_FnExactTailTurns.j1 kj21 l2 t524 t527 t539 true a0_0 a0_1 l0_2 a1_0 a1_1)))))) else (some false)) = some r := H
   have A58 := Aside0.mk A580
   clear A580
   by_cases c59 : t553 = true
   rotate_left
   ·replace c59 := Bool.eq_false_iff.mpr c59
    subst c59
    have H1 : (some false) = some r := by rw [if_neg (show ¬ (false = true) by decide)] at H; exact H
    clear H
    have H := H1
    clear H1
    obtain rfl := Option.some.inj H
    try go_wp2
    have n0_ := Aside0.mk (Kd.R_drew HO_8.out)
    have n1_ := Aside0.mk (Kd.R_drew HO_11.out)
    have n2_ := Aside0.mk (Kd.R_drew HO_12.out)
    have n3_ := Aside0.mk (Kd.R_drew HO_534002.out)
    have n4_ := Aside0.mk (blk_drew BK511.out)
    have n5_ := Aside0.mk (blk_drew BK512.out)
    have n6_ := Aside0.mk (blk_drew BK533.out)
    have n7_ := Aside0.mk (below_drew1 HB.out)
    clear HO_8
    clear HO_11
    clear HO_12
    clear HO_534002
    clear BK511
    clear BK512
    clear BK533
    clear HB
    have HO_8 := n0_
    have HO_11 := n1_
    have HO_12 := n2_
    have HO_534002 := n3_
    have BK511 := n4_
    have BK512 := n5_
    have BK533 := n6_
    have HB := n7_
    clear n0_ n1_ n2_ n3_ n4_ n5_ n6_ n7_
    refine start_ (n := 5) (S := fun w' => w'.cell? ⟨gb533, 0, none⟩ = some (.int .i64 t528) ∧ w'.cell? ⟨gb533, 1, none⟩ = some (.int .i64 t529) ∧ w'.cell? ⟨gb533, 2, none⟩ = some (.slice Ao41 t530.length co41) ∧ w'.cell? ⟨gb511, 0, none⟩ = some (.int .i64 a0_0) ∧ w'.cell? ⟨gb511, 1, none⟩ = some (.int .i64 a0_1) ∧ w'.cell? ⟨gb511, 2, none⟩ = some (.slice A0_2 l0_2.length c0_2)) (ds := []) #[false, false, false, false, false] (by kernel_rfl) rfl rfl ⟨(blk_cell BK533.out 0).trans rfl, (blk_cell BK533.out 1).trans rfl, (blk_cell BK533.out 2).trans rfl, (blk_cell BK511.out 0).trans rfl, (blk_cell BK511.out 1).trans rfl, (blk_cell BK511.out 2).trans rfl⟩ (fun hHeld => ?_)
    generalize wc.drew = w114 at HO_8 HO_11 HO_12 HO_534002 BK511 BK512 BK533 HB hHeld ⊢
    refine take_ (i := 0) (N := some 58) (v := ?_) (a' := ?_) #[true, false, false, false, false] rfl rfl (by kernel_rfl) (fun _ _ _ h => h) (Or.inl ⟨by rfl, ?_⟩) hHeld ?_ ?_
    rotate_left
    ·rintro w' ⟨s0, s1, s2, s3, s4, s5⟩
     go_simp
     with_reducible rfl
    rotate_left
    ·simp only [Act.put, List.setIfInBounds_toArray, List.set_cons_zero, List.set_cons_succ, i64_w, i32_w]
     rfl
    refine take_ (i := 1) (N := some 59) (v := ?_) (a' := ?_) #[true, true, false, false, false] rfl rfl (by kernel_rfl) (fun _ _ _ h => h) (Or.inl ⟨by rfl, ?_⟩) hHeld ?_ ?_
    rotate_left
    ·rintro w' ⟨s0, s1, s2, s3, s4, s5⟩
     go_simp
     with_reducible rfl
    rotate_left
    ·simp only [Act.put, List.setIfInBounds_toArray, List.set_cons_zero, List.set_cons_succ, i64_w, i32_w]
     rfl
    refine one_ (i := 2) (N := some 60) #[true, true, true, false, false] rfl rfl (by kernel_rfl) (by decide) (fun K hK => ?_)
    refine goes_ Try.func17 (by kernel_rfl) rfl #[.agg #[.int .i64 a0_0, .int .i64 a0_1, .slice A0_2 l0_2.length c0_2]] (by rfl) rfl rfl zv3 ?_
    with_reducible refine (laws_toBoard.calls kj21 a0_0 a0_1 _ _ l0_2 t544 t545 t546 _ ?side1 ?side2 A54.out).mono ?_
    (case side1 => exact zv13)
    (case side2 => exact HC0_2.out)
    rintro e w115 ⟨v547, rfl, ho0, hb⟩
    refine ⟨_, rfl, ?_⟩
    have n0_ := Aside0.mk (Kd.R_elder' zv10 (Kd.R_base ho0) hb)
    have n1_ := Aside0.mk (Kd.R_elder' zv12 (Kd.R_base ho0) hb)
    have n2_ := Aside0.mk (Kd.R_elder' zv9 (Kd.R_base ho0) hb)
    have n3_ := Aside0.mk (Kd.R_elder' zv8 (Kd.R_base ho0) hb)
    have n4_ := Aside0.mk (Kd.R_lower (Kd.R_new' (Kd.R_new' (Kd.R_new' (Kd.R_new' ho0 (Kd.R_lt zv10)) (Kd.R_lt zv12)) (Kd.R_lt zv9)) (Kd.R_lt zv8)) (below_size zv1))
    have n5_ := Aside0.mk (blk_below (g := gb511) (o := .cells #[.int .i64 a0_0, .int .i64 a0_1, .slice A0_2 l0_2.length c0_2] 24 (0, 0)) zv2 hb)
    have n6_ := Aside0.mk (blk_below (g := gb512) (o := .cells #[.int .i64 a1_0, .int .i64 a1_1] 26 (0, 0)) zv4 hb)
    have n7_ := Aside0.mk (blk_below (g := gb533) (o := .cells #[.int .i64 t528, .int .i64 t529, .slice Ao41 t530.length co41] 30 (0, 0)) zv7 hb)
    have n8_ := Aside0.mk (below_step zv1 hb)
    clear HO_8
    clear HO_11
    clear HO_12
    clear HO_534002
    clear BK511
    clear BK512
    clear BK533
    clear HB
    have HO_8 := n0_
    have HO_11 := n1_
    have HO_12 := n2_
    have HO_534002 := n3_
    have HO548 := n4_
    have BK511 := n5_
    have BK512 := n6_
    have BK533 := n7_
    have HB := n8_
    clear n0_ n1_ n2_ n3_ n4_ n5_ n6_ n7_ n8_
    (try clear hb)
    (try clear hb2)
    (try clear hk)
    (try clear hi)
    (try clear ho0)
    (try clear hna_)
    (try clear hnb_)
    obtain ⟨Ao116, co116, eo116⟩ := Kd.R_slice HO548.out
    (first | subst eo116 | (injection eo116 with f1_ f2_ f3_; have f4_ := f1_.symm; have f5_ := f3_.symm; clear f1_ f2_ f3_; subst f4_; subst f5_))
    refine hK.out _ _ ⟨(blk_cell BK533.out 0).trans rfl, (blk_cell BK533.out 1).trans rfl, (blk_cell BK533.out 2).trans rfl, (blk_cell BK511.out 0).trans rfl, (blk_cell BK511.out 1).trans rfl, (blk_cell BK511.out 2).trans rfl⟩ (fun hHeld => ?_)
    clear hK K
    refine norm_ (a' := ?_) ?_ ?_
    rotate_left
    ·show Act.put _ (some 60) _ = _
     simp only [Act.put, List.setIfInBounds_toArray, List.set_cons_zero, List.set_cons_succ, i64_w, i32_w]
     rfl
    refine one_ (i := 3) (N := some 61) #[true, true, true, true, false] rfl rfl (by kernel_rfl) (by decide) (fun K hK => ?_)
    refine goes_ Try.func22 (by kernel_rfl) rfl #[.agg #[.int .i64 t528, .int .i64 t529, .slice Ao41 t530.length co41], .agg #[.int .i64 t544, .int .i64 t545, .slice Ao116 t546.length co116]] (by rfl) rfl rfl zv3 ?_
    with_reducible refine (laws_eqBoard.calls kj21 t528 t529 _ _ t530 t544 t545 _ _ t546 true _ ?side1 ?side2 ?side3 ?side4 A55.out).mono ?_
    (case side1 => exact zv29)
    (case side2 => exact (Kd.R_reads' HO_534002.out).2.1)
    (case side3 => exact zv30)
    (case side4 => exact (Kd.R_reads' HO548.out).2.1)
    rintro e w117 ⟨rfl, hb⟩
    refine ⟨_, rfl, ?_⟩
    have n0_ := Aside0.mk (Kd.R_below zv10 hb)
    have n1_ := Aside0.mk (Kd.R_below zv12 hb)
    have n2_ := Aside0.mk (Kd.R_below zv9 hb)
    have n3_ := Aside0.mk (Kd.R_below zv8 hb)
    have n4_ := Aside0.mk (Kd.R_below zv19 hb)
    have n5_ := Aside0.mk (blk_below (g := gb511) (o := .cells #[.int .i64 a0_0, .int .i64 a0_1, .slice A0_2 l0_2.length c0_2] 24 (0, 0)) zv2 hb)
    have n6_ := Aside0.mk (blk_below (g := gb512) (o := .cells #[.int .i64 a1_0, .int .i64 a1_1] 26 (0, 0)) zv4 hb)
    have n7_ := Aside0.mk (blk_below (g := gb533) (o := .cells #[.int .i64 t528, .int .i64 t529, .slice Ao41 t530.length co41] 30 (0, 0)) zv7 hb)
    have n8_ := Aside0.mk (below_step zv1 hb)
    clear HO_8
    clear HO_11
    clear HO_12
    clear HO_534002
    clear HO548
    clear BK511
    clear BK512
    clear BK533
    clear HB
    have HO_8 := n0_
    have HO_11 := n1_
    have HO_12 := n2_
    have HO_534002 := n3_
    have HO548 := n4_
    have BK511 := n5_
    have BK512 := n6_
    have BK533 := n7_
    have HB := n8_
    clear n0_ n1_ n2_ n3_ n4_ n5_ n6_ n7_ n8_
    (try clear hb)
    (try clear hb2)
    (try clear hk)
    (try clear hi)
    (try clear hna_)
    (try clear hnb_)
    refine hK.out _ _ ⟨(blk_cell BK533.out 0).trans rfl, (blk_cell BK533.out 1).trans rfl, (blk_cell BK533.out 2).trans rfl, (blk_cell BK511.out 0).trans rfl, (blk_cell BK511.out 1).trans rfl, (blk_cell BK511.out 2).trans rfl⟩ (fun hHeld => ?_)
    clear hK K
    refine norm_ (a' := ?_) ?_ ?_
    rotate_left
    ·show Act.put _ (some 61) _ = _
     simp only [Act.put, List.setIfInBounds_toArray, List.set_cons_zero, List.set_cons_succ, i64_w, i32_w]
     rfl
    refine pure_ (i := 4) (N := some 62) (v := ?_) (a' := ?_) #[true, true, true, true, true] rfl rfl (by kernel_rfl) (fun _ _ _ h => h) (Or.inl ⟨by rfl, ?_⟩) ?_ ?_
    rotate_left
    ·intro w'
     go_simp
     with_reducible rfl
    rotate_left
    ·simp only [Act.put, List.setIfInBounds_toArray, List.set_cons_zero, List.set_cons_succ, i64_w, i32_w]
     rfl
    refine done_ (by kernel_rfl) ?_
    try go_wp2_with (first | ((with_reducible refine gate_callee (f := 19) rfl ?_); refine goesL_ (some 65) rfl rfl Try.func19 (by kernel_rfl) rfl #[.slice A2 l2.length c2] rfl zv3 ?_; (with_reducible refine (laws_toIntS.calls kj21 _ _ l2 t550 _ ?side1 ?side2 A57.out).mono ?_); (case side1 => exact zv21); (case side2 => exact HC2.out); rintro e w118 ⟨v551, rfl, ho0, hb⟩; refine ⟨_, rfl, ?_⟩; have n0_ := Aside0.mk (Kd.R_elder' zv10 (Kd.R_base ho0) hb); have n1_ := Aside0.mk (Kd.R_elder' zv12 (Kd.R_base ho0) hb); have n2_ := Aside0.mk (Kd.R_elder' zv9 (Kd.R_base ho0) hb); have n3_ := Aside0.mk (Kd.R_elder' zv8 (Kd.R_base ho0) hb); have n4_ := Aside0.mk (Kd.R_elder' zv19 (Kd.R_base ho0) hb); have n5_ := Aside0.mk (Kd.R_lower (Kd.R_new' (Kd.R_new' (Kd.R_new' (Kd.R_new' (Kd.R_new' ho0 (Kd.R_lt zv10)) (Kd.R_lt zv12)) (Kd.R_lt zv9)) (Kd.R_lt zv8)) (Kd.R_lt zv19)) (below_size zv1)); have n6_ := Aside0.mk (blk_below (g := gb511) (o := .cells #[.int .i64 a0_0, .int .i64 a0_1, .slice A0_2 l0_2.length c0_2] 24 (0, 0)) zv2 hb); have n7_ := Aside0.mk (blk_below (g := gb512) (o := .cells #[.int .i64 a1_0, .int .i64 a1_1] 26 (0, 0)) zv4 hb); have n8_ := Aside0.mk (blk_below (g := gb533) (o := .cells #[.int .i64 t528, .int .i64 t529, .slice Ao41 t530.length co41] 30 (0, 0)) zv7 hb); have n9_ := Aside0.mk (below_step zv1 hb); clear HO_8; clear HO_11; clear HO_12; clear HO_534002; clear HO548; clear BK511; clear BK512; clear BK533; clear HB; have HO_8 := n0_; have HO_11 := n1_; have HO_12 := n2_; have HO_534002 := n3_; have HO548 := n4_; have HO552 := n5_; have BK511 := n6_; have BK512 := n7_; have BK533 := n8_; have HB := n9_; clear n0_ n1_ n2_ n3_ n4_ n5_ n6_ n7_ n8_ n9_; (try clear hb); (try clear hb2); (try clear hk); (try clear hi); (try clear ho0); (try clear hna_); (try clear hnb_); obtain ⟨Ao119, co119, eo119⟩ := Kd.R_slice HO552.out; subst eo119) | ((with_reducible refine gate_callee (f := 21) rfl ?_); refine goesL_ (some 66) rfl rfl Try.func21 (by kernel_rfl) rfl #[.slice Ao45 t534.length co45, .slice Ao119 t550.length co119] rfl zv3 ?_; (with_reducible refine (laws_eqIntS.calls kj21 _ _ t534 _ _ t550 false _ ?side1 ?side2 ?side3 ?side4 A58.out).mono ?_); (case side1 => exact zv44); (case side2 => exact (Kd.R_reads' HO_11.out).2.1); (case side3 => exact zv46); (case side4 => exact (Kd.R_reads' HO552.out).2.1); rintro e w' ⟨rfl, ⟨nd, rfl⟩⟩; refine ⟨_, rfl, ?_⟩))
    go_ret
    exact ⟨zv17, zv1⟩
   subst c59
   have H1 : ((laws_markBoard.f kj21 t528 t529 t530 1).bind fun bt554 => ((laws_markIntS.f kj21 t534 bt554.1).bind fun bt556 => (if bt556.1 < 0 then (laws_FnExactTailTurns.j1 kj21 l2 t524 t527 t539 true a0_0 a0_1 l0_2 a1_0 a1_1) else ((laws_eqIntS.f kj21 t539 t524).bind fun t558 => (if t558 = true then (laws_FnExactTailTurns.j1 kj21 l2 t524 t527 t539 (t542 != t527) a0_0 a0_1 l0_2 a1_0 a1_1) else (laws_FnExactTailTurns.j1 kj21 l2 t524 t527 t539 true a0_0 a0_1 l0_2 a1_0 a1_1)))))) = some r := by rw [if_pos rfl] at H; exact H
   clear H
   have H := H1
   clear H1
   replace H := Option.bind_eq_some_iff.mp H
   obtain ⟨⟨t554, t555⟩, A600, H⟩ := H
   replace H : ((laws_markIntS.f kj21 t534 t554).bind fun bt556 => (if bt556.1 < 0 then (laws_FnExactTailTurns.j1 kj21 l2 t524 t527 t539 true a0_0 a0_1 l0_2 a1_0 a1_1) else ((laws_eqIntS.f kj21 t539 t524).bind fun t558 => (if t558 = true then (laws_FnExactTailTurns.j1 kj21 l2 t524 t527 t539 (t542 != t527) a0_0 a0_1 l0_2 a1_0 a1_1) else (laws_FnExactTailTurns.j1 kj21 l2 t524 t527 t539 true a0_0 a0_1 l0_2 a1_0 a1_1))))) = some r := H
   have A60 := Aside0.mk A600
   clear A600
   replace H := Option.bind_eq_some_iff.mp H
   obtain ⟨⟨t556, t557⟩, A610, H⟩ := H
   replace H : (if t556 < 0 then (laws_FnExactTailTurns.j1 kj21 l2 t524 t527 t539 true a0_0 a0_1 l0_2 a1_0 a1_1) else ((laws_eqIntS.f kj21 t539 t524).bind fun t558 => (if t558 = true then (laws_FnExactTailTurns.j1 kj21 l2 t524 t527 t539 (t542 != t527) a0_0 a0_1 l0_2 a1_0 a1_1) else (laws_FnExactTailTurns.j1 kj21 l2 t524 t527 t539 true a0_0 a0_1 l0_2 a1_0 a1_1)))) = some r := H
   have A61 := Aside0.mk A610
   clear A610
   have HC62 := Aside0.mk H
   clear H
   try go_wp2
   have n0_ := Aside0.mk (Kd.R_drew HO_8.out)
   have n1_ := Aside0.mk (Kd.R_drew HO_11.out)
   have n2_ := Aside0.mk (Kd.R_drew HO_12.out)
   have n3_ := Aside0.mk (Kd.R_drew HO_534002.out)
   have n4_ := Aside0.mk (blk_drew BK511.out)
   have n5_ := Aside0.mk (blk_drew BK512.out)
   have n6_ := Aside0.mk (blk_drew BK533.out)
   have n7_ := Aside0.mk (below_drew1 HB.out)
   clear HO_8
   clear HO_11
   clear HO_12
   clear HO_534002
   clear BK511
   clear BK512
   clear BK533
   clear HB
   have HO_8 := n0_
   have HO_11 := n1_
   have HO_12 := n2_
   have HO_534002 := n3_
   have BK511 := n4_
   have BK512 := n5_
   have BK533 := n6_
   have HB := n7_
   clear n0_ n1_ n2_ n3_ n4_ n5_ n6_ n7_
   refine start_ (n := 5) (S := fun w' => w'.cell? ⟨gb533, 0, none⟩ = some (.int .i64 t528) ∧ w'.cell? ⟨gb533, 1, none⟩ = some (.int .i64 t529) ∧ w'.cell? ⟨gb533, 2, none⟩ = some (.slice Ao41 t530.length co41) ∧ w'.cell? ⟨gb511, 0, none⟩ = some (.int .i64 a0_0) ∧ w'.cell? ⟨gb511, 1, none⟩ = some (.int .i64 a0_1) ∧ w'.cell? ⟨gb511, 2, none⟩ = some (.slice A0_2 l0_2.length c0_2)) (ds := []) #[false, false, false, false, false] (by kernel_rfl) rfl rfl ⟨(blk_cell BK533.out 0).trans rfl, (blk_cell BK533.out 1).trans rfl, (blk_cell BK533.out 2).trans rfl, (blk_cell BK511.out 0).trans rfl, (blk_cell BK511.out 1).trans rfl, (blk_cell BK511.out 2).trans rfl⟩ (fun hHeld => ?_)
   generalize wc.drew = w63 at HO_8 HO_11 HO_12 HO_534002 BK511 BK512 BK533 HB hHeld ⊢
   refine take_ (i := 0) (N := some 58) (v := ?_) (a' := ?_) #[true, false, false, false, false] rfl rfl (by kernel_rfl) (fun _ _ _ h => h) (Or.inl ⟨by rfl, ?_⟩) hHeld ?_ ?_
   rotate_left
   ·rintro w' ⟨s0, s1, s2, s3, s4, s5⟩
    go_simp
    with_reducible rfl
   rotate_left
   ·simp only [Act.put, List.setIfInBounds_toArray, List.set_cons_zero, List.set_cons_succ, i64_w, i32_w]
    rfl
   refine take_ (i := 1) (N := some 59) (v := ?_) (a' := ?_) #[true, true, false, false, false] rfl rfl (by kernel_rfl) (fun _ _ _ h => h) (Or.inl ⟨by rfl, ?_⟩) hHeld ?_ ?_
   rotate_left
   ·rintro w' ⟨s0, s1, s2, s3, s4, s5⟩
    go_simp
    with_reducible rfl
   rotate_left
   ·simp only [Act.put, List.setIfInBounds_toArray, List.set_cons_zero, List.set_cons_succ, i64_w, i32_w]
    rfl
   refine one_ (i := 2) (N := some 60) #[true, true, true, false, false] rfl rfl (by kernel_rfl) (by decide) (fun K hK => ?_)
   refine goes_ Try.func17 (by kernel_rfl) rfl #[.agg #[.int .i64 a0_0, .int .i64 a0_1, .slice A0_2 l0_2.length c0_2]] (by rfl) rfl rfl zv3 ?_
   with_reducible refine (laws_toBoard.calls kj21 a0_0 a0_1 _ _ l0_2 t544 t545 t546 _ ?side1 ?side2 A54.out).mono ?_
   (case side1 => exact zv13)
   (case side2 => exact HC0_2.out)
   rintro e w64 ⟨v547, rfl, ho0, hb⟩
   refine ⟨_, rfl, ?_⟩
   have n0_ := Aside0.mk (Kd.R_elder' zv10 (Kd.R_base ho0) hb)
   have n1_ := Aside0.mk (Kd.R_elder' zv12 (Kd.R_base ho0) hb)
   have n2_ := Aside0.mk (Kd.R_elder' zv9 (Kd.R_base ho0) hb)
   have n3_ := Aside0.mk (Kd.R_elder' zv8 (Kd.R_base ho0) hb)
   have n4_ := Aside0.mk (Kd.R_lower (Kd.R_new' (Kd.R_new' (Kd.R_new' (Kd.R_new' ho0 (Kd.R_lt zv10)) (Kd.R_lt zv12)) (Kd.R_lt zv9)) (Kd.R_lt zv8)) (below_size zv1))
   have n5_ := Aside0.mk (blk_below (g := gb511) (o := .cells #[.int .i64 a0_0, .int .i64 a0_1, .slice A0_2 l0_2.length c0_2] 24 (0, 0)) zv2 hb)
   have n6_ := Aside0.mk (blk_below (g := gb512) (o := .cells #[.int .i64 a1_0, .int .i64 a1_1] 26 (0, 0)) zv4 hb)
   have n7_ := Aside0.mk (blk_below (g := gb533) (o := .cells #[.int .i64 t528, .int .i64 t529, .slice Ao41 t530.length co41] 30 (0, 0)) zv7 hb)
   have n8_ := Aside0.mk (below_step zv1 hb)
   clear HO_8
   clear HO_11
   clear HO_12
   clear HO_534002
   clear BK511
   clear BK512
   clear BK533
   clear HB
   have HO_8 := n0_
   have HO_11 := n1_
   have HO_12 := n2_
   have HO_534002 := n3_
   have HO548 := n4_
   have BK511 := n5_
   have BK512 := n6_
   have BK533 := n7_
   have HB := n8_
   clear n0_ n1_ n2_ n3_ n4_ n5_ n6_ n7_ n8_
   (try clear hb)
   (try clear hb2)
   (try clear hk)
   (try clear hi)
   (try clear ho0)
   (try clear hna_)
   (try clear hnb_)
   obtain ⟨Ao65, co65, eo65⟩ := Kd.R_slice HO548.out
   (first | subst eo65 | (injection eo65 with f1_ f2_ f3_; have f4_ := f1_.symm; have f5_ := f3_.symm; clear f1_ f2_ f3_; subst f4_; subst f5_))
   refine hK.out _ _ ⟨(blk_cell BK533.out 0).trans rfl, (blk_cell BK533.out 1).trans rfl, (blk_cell BK533.out 2).trans rfl, (blk_cell BK511.out 0).trans rfl, (blk_cell BK511.out 1).trans rfl, (blk_cell BK511.out 2).trans rfl⟩ (fun hHeld => ?_)
   clear hK K
   refine norm_ (a' := ?_) ?_ ?_
   rotate_left
   ·show Act.put _ (some 60) _ = _
    simp only [Act.put, List.setIfInBounds_toArray, List.set_cons_zero, List.set_cons_succ, i64_w, i32_w]
    rfl
   refine one_ (i := 3) (N := some 61) #[true, true, true, true, false] rfl rfl (by kernel_rfl) (by decide) (fun K hK => ?_)
   refine goes_ Try.func22 (by kernel_rfl) rfl #[.agg #[.int .i64 t528, .int .i64 t529, .slice Ao41 t530.length co41], .agg #[.int .i64 t544, .int .i64 t545, .slice Ao65 t546.length co65]] (by rfl) rfl rfl zv3 ?_
   with_reducible refine (laws_eqBoard.calls kj21 t528 t529 _ _ t530 t544 t545 _ _ t546 true _ ?side1 ?side2 ?side3 ?side4 A55.out).mono ?_
   (case side1 => exact zv29)
   (case side2 => exact (Kd.R_reads' HO_534002.out).2.1)
   (case side3 => exact zv30)
   (case side4 => exact (Kd.R_reads' HO548.out).2.1)
   rintro e w66 ⟨rfl, hb⟩
   refine ⟨_, rfl, ?_⟩
   have n0_ := Aside0.mk (Kd.R_below zv10 hb)
   have n1_ := Aside0.mk (Kd.R_below zv12 hb)
   have n2_ := Aside0.mk (Kd.R_below zv9 hb)
   have n3_ := Aside0.mk (Kd.R_below zv8 hb)
   have n4_ := Aside0.mk (Kd.R_below zv19 hb)
   have n5_ := Aside0.mk (blk_below (g := gb511) (o := .cells #[.int .i64 a0_0, .int .i64 a0_1, .slice A0_2 l0_2.length c0_2] 24 (0, 0)) zv2 hb)
   have n6_ := Aside0.mk (blk_below (g := gb512) (o := .cells #[.int .i64 a1_0, .int .i64 a1_1] 26 (0, 0)) zv4 hb)
   have n7_ := Aside0.mk (blk_below (g := gb533) (o := .cells #[.int .i64 t528, .int .i64 t529, .slice Ao41 t530.length co41] 30 (0, 0)) zv7 hb)
   have n8_ := Aside0.mk (below_step zv1 hb)
   clear HO_8
   clear HO_11
   clear HO_12
   clear HO_534002
   clear HO548
   clear BK511
   clear BK512
   clear BK533
   clear HB
   have HO_8 := n0_
   have HO_11 := n1_
   have HO_12 := n2_
   have HO_534002 := n3_
   have HO548 := n4_
   have BK511 := n5_
   have BK512 := n6_
   have BK533 := n7_
   have HB := n8_
   clear n0_ n1_ n2_ n3_ n4_ n5_ n6_ n7_ n8_
   (try clear hb)
   (try clear hb2)
   (try clear hk)
   (try clear hi)
   (try clear hna_)
   (try clear hnb_)
   refine hK.out _ _ ⟨(blk_cell BK533.out 0).trans rfl, (blk_cell BK533.out 1).trans rfl, (blk_cell BK533.out 2).trans rfl, (blk_cell BK511.out 0).trans rfl, (blk_cell BK511.out 1).trans rfl, (blk_cell BK511.out 2).trans rfl⟩ (fun hHeld => ?_)
   clear hK K
   refine norm_ (a' := ?_) ?_ ?_
   rotate_left
   ·show Act.put _ (some 61) _ = _
    simp only [Act.put, List.setIfInBounds_toArray, List.set_cons_zero, List.set_cons_succ, i64_w, i32_w]
    rfl
   refine pure_ (i := 4) (N := some 62) (v := ?_) (a' := ?_) #[true, true, true, true, true] rfl rfl (by kernel_rfl) (fun _ _ _ h => h) (Or.inl ⟨by rfl, ?_⟩) ?_ ?_
   rotate_left
   ·intro w'
    go_simp
    with_reducible rfl
   rotate_left
   ·simp only [Act.put, List.setIfInBounds_toArray, List.set_cons_zero, List.set_cons_succ, i64_w, i32_w]
    rfl
   refine done_ (by kernel_rfl) ?_
   go_upto_region 20 with (first | ((with_reducible refine gate_callee (f := 19) rfl ?_); refine goesL_ (some 65) rfl rfl Try.func19 (by kernel_rfl) rfl #[.slice A2 l2.length c2] rfl zv3 ?_; (with_reducible refine (laws_toIntS.calls kj21 _ _ l2 t550 _ ?side1 ?side2 A57.out).mono ?_); (case side1 => exact zv21); (case side2 => exact HC2.out); rintro e w67 ⟨v551, rfl, ho0, hb⟩; refine ⟨_, rfl, ?_⟩; have n0_ := Aside0.mk (Kd.R_elder' zv10 (Kd.R_base ho0) hb); have n1_ := Aside0.mk (Kd.R_elder' zv12 (Kd.R_base ho0) hb); have n2_ := Aside0.mk (Kd.R_elder' zv9 (Kd.R_base ho0) hb); have n3_ := Aside0.mk (Kd.R_elder' zv8 (Kd.R_base ho0) hb); have n4_ := Aside0.mk (Kd.R_elder' zv19 (Kd.R_base ho0) hb); have n5_ := Aside0.mk (Kd.R_lower (Kd.R_new' (Kd.R_new' (Kd.R_new' (Kd.R_new' (Kd.R_new' ho0 (Kd.R_lt zv10)) (Kd.R_lt zv12)) (Kd.R_lt zv9)) (Kd.R_lt zv8)) (Kd.R_lt zv19)) (below_size zv1)); have n6_ := Aside0.mk (blk_below (g := gb511) (o := .cells #[.int .i64 a0_0, .int .i64 a0_1, .slice A0_2 l0_2.length c0_2] 24 (0, 0)) zv2 hb); have n7_ := Aside0.mk (blk_below (g := gb512) (o := .cells #[.int .i64 a1_0, .int .i64 a1_1] 26 (0, 0)) zv4 hb); have n8_ := Aside0.mk (blk_below (g := gb533) (o := .cells #[.int .i64 t528, .int .i64 t529, .slice Ao41 t530.length co41] 30 (0, 0)) zv7 hb); have n9_ := Aside0.mk (below_step zv1 hb); clear HO_8; clear HO_11; clear HO_12; clear HO_534002; clear HO548; clear BK511; clear BK512; clear BK533; clear HB; have HO_8 := n0_; have HO_11 := n1_; have HO_12 := n2_; have HO_534002 := n3_; have HO548 := n4_; have HO552 := n5_; have BK511 := n6_; have BK512 := n7_; have BK533 := n8_; have HB := n9_; clear n0_ n1_ n2_ n3_ n4_ n5_ n6_ n7_ n8_ n9_; (try clear hb); (try clear hb2); (try clear hk); (try clear hi); (try clear ho0); (try clear hna_); (try clear hnb_); obtain ⟨Ao68, co68, eo68⟩ := Kd.R_slice HO552.out; subst eo68) | ((with_reducible refine gate_callee (f := 21) rfl ?_); refine goesL_ (some 66) rfl rfl Try.func21 (by kernel_rfl) rfl #[.slice Ao45 t534.length co45, .slice Ao68 t550.length co68] rfl zv3 ?_; (with_reducible refine (laws_eqIntS.calls kj21 _ _ t534 _ _ t550 true _ ?side1 ?side2 ?side3 ?side4 A58.out).mono ?_); (case side1 => exact zv44); (case side2 => exact (Kd.R_reads' HO_11.out).2.1); (case side3 => exact zv46); (case side4 => exact (Kd.R_reads' HO552.out).2.1); rintro e w' ⟨rfl, ⟨nd, rfl⟩⟩; refine ⟨_, rfl, ?_⟩; have hnb69 := NB533_511.out; have hnc69 := NB511_533.out; have hnb70 := NB533_512.out; have hnc70 := NB512_533.out; have hcz71_0 : w67.cell? ⟨gb533, 0, none⟩ = some (.int .i64 t528) := (blk_cell BK533.out 0).trans rfl; have hcz71_1 : w67.cell? ⟨gb533, 1, none⟩ = some (.int .i64 t529) := (blk_cell BK533.out 1).trans rfl; have hcz71_2 : w67.cell? ⟨gb533, 2, none⟩ = some (.slice Ao41 t530.length co41) := (blk_cell BK533.out 2).trans rfl; have hfz71_0 := blk_frozen BK533.out 0; have hfz71_1 := blk_frozen BK533.out 1; have hfz71_2 := blk_frozen BK533.out 2) | ((with_reducible refine gate_callee (f := 23) rfl ?_); refine goesL_ (some 70) rfl rfl Try.func23 (by kernel_rfl) rfl #[.agg #[.int .i64 t528, .int .i64 t529, .slice Ao41 t530.length co41], .int .i64 1] rfl zv3 ?_; (with_reducible refine (laws_markBoard.calls kj21 t528 t529 (fun k_ => some k_ = (.slice Ao41 t530.length co41 : Value).ownBlock) (.slice Ao41 t530.length co41) t530 1 t554 t555 w _ ?side1 ?side2 A60.out).mono ?_); (case side1 => exact zv1); (case side2 => exact Kd.R_tight rfl HO_534002.out); rintro e w72 ⟨rfl, hy0, hb, hkp⟩; refine ⟨_, rfl, ?_⟩; have n0_ := Aside0.mk (Kd.R_mono (ok' := fun k_ => some k_ ≠ (.slice Ao45 t534.length co45 : Value).ownBlock ∧ some k_ ≠ (v540 : Value).ownBlock ∧ some k_ ≠ (.slice Ao41 t530.length co41 : Value).ownBlock ∧ some k_ ≠ (.slice Ao65 t546.length co65 : Value).ownBlock ∧ some k_ ≠ (.slice Ao68 t550.length co68 : Value).ownBlock) (Kd.R_keptB (HO_8.out) hkp (fun k_ hk_ hs_ => (hk_.1.1.2.2) hs_)) (fun k_ hk_ => ⟨hk_.1.1.1.1, hk_.1.1.1.2.1, hk_.1.1.1.2.2, hk_.1.1.2, hk_.1.2⟩)); have n1_ := Aside0.mk (Kd.R_mono (ok' := fun k_ => some k_ ≠ (v525 : Value).ownBlock ∧ some k_ ≠ (v540 : Value).ownBlock ∧ some k_ ≠ (.slice Ao41 t530.length co41 : Value).ownBlock ∧ some k_ ≠ (.slice Ao65 t546.length co65 : Value).ownBlock ∧ some k_ ≠ (.slice Ao68 t550.length co68 : Value).ownBlock) (Kd.R_keptB (HO_11.out) hkp (fun k_ hk_ hs_ => (hk_.1.1.2.2) hs_)) (fun k_ hk_ => ⟨hk_.1.1.1.1, hk_.1.1.1.2.1, hk_.1.1.1.2.2, hk_.1.1.2, hk_.1.2⟩)); have n2_ := Aside0.mk (Kd.R_mono (ok' := fun k_ => some k_ ≠ (v525 : Value).ownBlock ∧ some k_ ≠ (.slice Ao45 t534.length co45 : Value).ownBlock ∧ some k_ ≠ (.slice Ao41 t530.length co41 : Value).ownBlock ∧ some k_ ≠ (.slice Ao65 t546.length co65 : Value).ownBlock ∧ some k_ ≠ (.slice Ao68 t550.length co68 : Value).ownBlock) (Kd.R_keptB (HO_12.out) hkp (fun k_ hk_ hs_ => (hk_.1.1.2.2) hs_)) (fun k_ hk_ => ⟨hk_.1.1.1.1, hk_.1.1.1.2.1, hk_.1.1.1.2.2, hk_.1.1.2, hk_.1.2⟩)); have n3_ := Aside0.mk (Kd.R_reok rfl hy0 (fun k_ e_ => HO_534002.out.1 k_ e_)); have n4_ := Aside0.mk (blk_kept zv2 hkp (fun hs_ => (fun e_ => (Kd.R_ne HO_534002.out BK511.out (by decide)) e_) hs_)); have n5_ := Aside0.mk (blk_kept zv4 hkp (fun hs_ => (fun e_ => (Kd.R_ne HO_534002.out BK512.out (by decide)) e_) hs_)); have n6_ := Aside0.mk (blk_kept zv7 hkp (fun hs_ => (fun e_ => (Kd.R_ne HO_534002.out BK533.out (by decide)) e_) hs_)); have n7_ := Aside0.mk (Kd.R_mono (ok' := fun k_ => some k_ ≠ (v525 : Value).ownBlock ∧ some k_ ≠ (.slice Ao45 t534.length co45 : Value).ownBlock ∧ some k_ ≠ (v540 : Value).ownBlock ∧ some k_ ≠ (.slice Ao41 t530.length co41 : Value).ownBlock ∧ some k_ ≠ (.slice Ao68 t550.length co68 : Value).ownBlock) (Kd.R_keptB (HO548.out) hkp (fun k_ hk_ hs_ => (hk_.1.2) hs_)) (fun k_ hk_ => ⟨hk_.1.1.1.1.1.2, hk_.1.1.1.1.2, hk_.1.1.1.2, hk_.1.1.2, hk_.1.2⟩)); have n8_ := Aside0.mk (Kd.R_mono (ok' := fun k_ => some k_ ≠ (v525 : Value).ownBlock ∧ some k_ ≠ (.slice Ao45 t534.length co45 : Value).ownBlock ∧ some k_ ≠ (v540 : Value).ownBlock ∧ some k_ ≠ (.slice Ao41 t530.length co41 : Value).ownBlock ∧ some k_ ≠ (.slice Ao65 t546.length co65 : Value).ownBlock) (Kd.R_keptB (HO552.out) hkp (fun k_ hk_ hs_ => (hk_.1.2) hs_)) (fun k_ hk_ => ⟨hk_.1.1.1.1.1.2, hk_.1.1.1.1.2, hk_.1.1.1.2, hk_.1.1.2, hk_.1.2⟩)); have n9_ := Aside0.mk (hb); clear HO_8; clear HO_11; clear HO_12; clear HO_534002; clear BK511; clear BK512; clear BK533; clear HO548; clear HO552; clear HB; have HO_8 := n0_; have HO_11 := n1_; have HO_12 := n2_; have HO_534002 := n3_; have BK511 := n4_; have BK512 := n5_; have BK533 := n6_; have HO548 := n7_; have HO552 := n8_; have HB := n9_; clear n0_ n1_ n2_ n3_ n4_ n5_ n6_ n7_ n8_ n9_; (try clear hb); (try clear hkp); (try clear hy0)) | ((with_reducible refine gate_callee (f := 24) rfl ?_); refine goesL_ (some 73) rfl rfl Try.func24 (by kernel_rfl) rfl #[.slice Ao45 t534.length co45, .int .i64 t554] rfl zv3 ?_; (with_reducible refine (laws_markIntS.calls kj21 (fun k_ => some k_ = (.slice Ao45 t534.length co45 : Value).ownBlock) (.slice Ao45 t534.length co45) t534 t554 t556 t557 w _ ?side1 ?side2 A61.out).mono ?_); (case side1 => exact zv1); (case side2 => exact Kd.R_tight rfl HO_11.out); rintro e w73 ⟨rfl, hy0, hb, hkp⟩; refine ⟨_, rfl, ?_⟩; have n0_ := Aside0.mk (Kd.R_mono (ok' := fun k_ => some k_ ≠ (.slice Ao45 t534.length co45 : Value).ownBlock ∧ some k_ ≠ (v540 : Value).ownBlock ∧ some k_ ≠ (.slice Ao41 t530.length co41 : Value).ownBlock ∧ some k_ ≠ (.slice Ao65 t546.length co65 : Value).ownBlock ∧ some k_ ≠ (.slice Ao68 t550.length co68 : Value).ownBlock) (Kd.R_keptB (HO_8.out) hkp (fun k_ hk_ hs_ => (hk_.1) hs_)) (fun k_ hk_ => ⟨hk_.1.1, hk_.1.2.1, hk_.1.2.2.1, hk_.1.2.2.2.1, hk_.1.2.2.2.2⟩)); have n1_ := Aside0.mk (Kd.R_reok rfl hy0 (fun k_ e_ => HO_11.out.1 k_ e_)); have n2_ := Aside0.mk (Kd.R_mono (ok' := fun k_ => some k_ ≠ (v525 : Value).ownBlock ∧ some k_ ≠ (.slice Ao45 t534.length co45 : Value).ownBlock ∧ some k_ ≠ (.slice Ao41 t530.length co41 : Value).ownBlock ∧ some k_ ≠ (.slice Ao65 t546.length co65 : Value).ownBlock ∧ some k_ ≠ (.slice Ao68 t550.length co68 : Value).ownBlock) (Kd.R_keptB (HO_12.out) hkp (fun k_ hk_ hs_ => (hk_.2.1) hs_)) (fun k_ hk_ => ⟨hk_.1.1, hk_.1.2.1, hk_.1.2.2.1, hk_.1.2.2.2.1, hk_.1.2.2.2.2⟩)); have n3_ := Aside0.mk (Kd.R_mono (ok' := fun k_ => some k_ ≠ (v525 : Value).ownBlock ∧ some k_ ≠ (.slice Ao45 t534.length co45 : Value).ownBlock ∧ some k_ ≠ (v540 : Value).ownBlock ∧ some k_ ≠ (.slice Ao65 t546.length co65 : Value).ownBlock ∧ some k_ ≠ (.slice Ao68 t550.length co68 : Value).ownBlock) (Kd.R_keptB (HO_534002.out) hkp (fun k_ hk_ hs_ => (hk_.1.1.2.1) hs_)) (fun k_ hk_ => ⟨hk_.1.1.1.1, hk_.1.1.1.2.1, hk_.1.1.1.2.2, hk_.1.1.2, hk_.1.2⟩)); have n4_ := Aside0.mk (blk_kept zv2 hkp (fun hs_ => (fun e_ => (Kd.R_ne HO_11.out BK511.out (by decide)) e_) hs_)); have n5_ := Aside0.mk (blk_kept zv4 hkp (fun hs_ => (fun e_ => (Kd.R_ne HO_11.out BK512.out (by decide)) e_) hs_)); have n6_ := Aside0.mk (blk_kept zv7 hkp (fun hs_ => (fun e_ => (Kd.R_ne HO_11.out BK533.out (by decide)) e_) hs_)); have n7_ := Aside0.mk (Kd.R_mono (ok' := fun k_ => some k_ ≠ (v525 : Value).ownBlock ∧ some k_ ≠ (.slice Ao45 t534.length co45 : Value).ownBlock ∧ some k_ ≠ (v540 : Value).ownBlock ∧ some k_ ≠ (.slice Ao41 t530.length co41 : Value).ownBlock ∧ some k_ ≠ (.slice Ao68 t550.length co68 : Value).ownBlock) (Kd.R_keptB (HO548.out) hkp (fun k_ hk_ hs_ => (hk_.2.1) hs_)) (fun k_ hk_ => ⟨hk_.1.1, hk_.1.2.1, hk_.1.2.2.1, hk_.1.2.2.2.1, hk_.1.2.2.2.2⟩)); have n8_ := Aside0.mk (Kd.R_mono (ok' := fun k_ => some k_ ≠ (v525 : Value).ownBlock ∧ some k_ ≠ (.slice Ao45 t534.length co45 : Value).ownBlock ∧ some k_ ≠ (v540 : Value).ownBlock ∧ some k_ ≠ (.slice Ao41 t530.length co41 : Value).ownBlock ∧ some k_ ≠ (.slice Ao65 t546.length co65 : Value).ownBlock) (Kd.R_keptB (HO552.out) hkp (fun k_ hk_ hs_ => (hk_.2.1) hs_)) (fun k_ hk_ => ⟨hk_.1.1, hk_.1.2.1, hk_.1.2.2.1, hk_.1.2.2.2.1, hk_.1.2.2.2.2⟩)); have n9_ := Aside0.mk (hb); clear HO_8; clear HO_11; clear HO_12; clear HO_534002; clear BK511; clear BK512; clear BK533; clear HO548; clear HO552; clear HB; have HO_8 := n0_; have HO_11 := n1_; have HO_12 := n2_; have HO_534002 := n3_; have BK511 := n4_; have BK512 := n5_; have BK533 := n6_; have HO548 := n7_; have HO552 := n8_; have HB := n9_; clear n0_ n1_ n2_ n3_ n4_ n5_ n6_ n7_ n8_ n9_; (try clear hb); (try clear hkp); (try clear hy0)))
   (try simp only [Act.put, List.setIfInBounds_toArray, List.set_cons_zero, List.set_cons_succ])
   go_cut [86] (fun v86 wc => ∃ (kq : Nat) (x86_61 : Bool), v86 = .bool x86_61 ∧ Aside0 (laws_FnExactTailTurns.j1 kq l2 t524 t527 t539 x86_61 a0_0 a0_1 l0_2 a1_0 a1_1 = some r) ∧ Aside0 (kq ≤ kj21) ∧ Aside0 (Kd.R (Kd.int .i64) 3 wc w.heap.size (fun k_ => some k_ ≠ (v540 : Value).ownBlock ∧ some k_ ≠ ((.slice Ao41 t530.length co41) : Value).ownBlock) v525 t524) ∧ Aside0 (Kd.R (Kd.int .i64) 3 wc w.heap.size (fun k_ => some k_ ≠ (v525 : Value).ownBlock ∧ some k_ ≠ ((.slice Ao41 t530.length co41) : Value).ownBlock) v540 t539) ∧ Aside0 (Kd.R (Kd.int .i64) 3 wc w.heap.size (fun k_ => some k_ ≠ (v525 : Value).ownBlock ∧ some k_ ≠ (v540 : Value).ownBlock) (.slice Ao41 t530.length co41) t555) ∧ Aside0 (wc.heap[gb511]? = some (.cells #[.int .i64 a0_0, .int .i64 a0_1, (.slice A0_2 l0_2.length c0_2)] 24 (0, 0))) ∧ Aside0 (wc.heap[gb512]? = some (.cells #[.int .i64 a1_0, .int .i64 a1_1] 26 (0, 0))) ∧ Aside0 (wc.heap[gb533]? = some (.cells #[.int .i64 t528, .int .i64 t529, (.slice Ao41 t530.length co41)] 30 (0, 0))) ∧ Aside0 (Below w.heap.size w wc))
   case first =>
    have H := HC62.out
    clear HC62
    by_cases c74 : t556 < 0
    ·rw [if_pos c74] at H
     have c74b0 : decide (t556 < 0) = true := decide_eq_true c74
     clear c74
     (first | rw [c74b0] | (simp only [i64_w, i32_w]; rw [c74b0]) | skip)
     have H' := Aside0.mk H
     clear H
     go_wp2
     go_meet
     case rel => exact ⟨_, (true), zv35, H', ⟨by have := HJ21.out; first | omega | exact Nat.le_refl _⟩, ⟨zv33⟩, ⟨zv34⟩, ⟨zv32⟩, ⟨zv2⟩, ⟨zv4⟩, ⟨zv7⟩, ⟨zv1⟩⟩
    rw [if_neg c74] at H
    have c74b0 : decide (t556 < 0) = false := decide_eq_false c74
    clear c74
    (first | rw [c74b0] | (simp only [i64_w, i32_w]; rw [c74b0]) | skip)
    replace H := Option.bind_eq_some_iff.mp H
    obtain ⟨t558, A750, H⟩ := H
    replace H : (if t558 = true then (laws_FnExactTailTurns.j1 kj21 l2 t524 t527 t539 (t542 != t527) a0_0 a0_1 l0_2 a1_0 a1_1) else (laws_FnExactTailTurns.j1 kj21 l2 t524 t527 t539 true a0_0 a0_1 l0_2 a1_0 a1_1)) = some r := H
    have A75 := Aside0.mk A750
    clear A750
    by_cases c76 : t558 = true
    ·subst c76
     have H1 : (laws_FnExactTailTurns.j1 kj21 l2 t524 t527 t539 (t542 != t527) a0_0 a0_1 l0_2 a1_0 a1_1) = some r := by rw [if_pos rfl] at H; exact H
     clear H
     have H := H1
     clear H1
     have H' := Aside0.mk H
     clear H
     obtain ⟨Ao77, co77, eo77⟩ := Kd.R_slice HO_12.out
     subst eo77
     obtain ⟨Ao78, co78, eo78⟩ := Kd.R_slice HO_8.out
     subst eo78
     go_wp2_with (first | (go_at_call 21; (with_reducible refine (laws_eqIntS.calls kj21 _ _ t539 _ _ t524 true _ ?side1 ?side2 ?side3 ?side4 A75.out).mono ?_); (case side1 => exact zv14); (case side2 => exact (Kd.R_reads' HO_12.out).2.1); (case side3 => exact zv22); (case side4 => exact (Kd.R_reads' HO_8.out).2.1); rintro e w' ⟨rfl, ⟨nd, rfl⟩⟩))
     go_meet
     case rel => exact ⟨_, ((t542 != t527)), zv35, H', ⟨by have := HJ21.out; first | omega | exact Nat.le_refl _⟩, ⟨zv33⟩, ⟨zv34⟩, ⟨zv32⟩, ⟨zv2⟩, ⟨zv4⟩, ⟨zv7⟩, ⟨zv1⟩⟩
    replace c76 := Bool.eq_false_iff.mpr c76
    subst c76
    have H1 : (laws_FnExactTailTurns.j1 kj21 l2 t524 t527 t539 true a0_0 a0_1 l0_2 a1_0 a1_1) = some r := by rw [if_neg (show ¬ (false = true) by decide)] at H; exact H
    clear H
    have H := H1
    clear H1
    have H' := Aside0.mk H
    clear H
    obtain ⟨Ao79, co79, eo79⟩ := Kd.R_slice HO_12.out
    subst eo79
    obtain ⟨Ao80, co80, eo80⟩ := Kd.R_slice HO_8.out
    subst eo80
    go_wp2_with (first | (go_at_call 21; (with_reducible refine (laws_eqIntS.calls kj21 _ _ t539 _ _ t524 false _ ?side1 ?side2 ?side3 ?side4 A75.out).mono ?_); (case side1 => exact zv14); (case side2 => exact (Kd.R_reads' HO_12.out).2.1); (case side3 => exact zv22); (case side4 => exact (Kd.R_reads' HO_8.out).2.1); rintro e w' ⟨rfl, ⟨nd, rfl⟩⟩))
    go_meet
    case rel => exact ⟨_, (true), zv35, H', ⟨by have := HJ21.out; first | omega | exact Nat.le_refl _⟩, ⟨zv33⟩, ⟨zv34⟩, ⟨zv32⟩, ⟨zv2⟩, ⟨zv4⟩, ⟨zv7⟩, ⟨zv1⟩⟩
   case rest =>
    clear HC62
    try clear c1; try clear c2; try clear p2; try clear c3; try clear c4; try clear c4b0; try clear c4b1; try clear c5; try clear c6; try clear c7; try clear c8; try clear c8b0; try clear c11; try clear c15; try clear c17; try clear c18; try clear c19; try clear c21; try clear c22; try clear c23; try clear c24; try clear c25; try clear c28; try clear c29; try clear c38; try clear c39; try clear c48; try clear c53; try clear c56; try clear c59; try clear c69; try clear c70; try clear c74; try clear c74b0; try clear c76; try clear hcz12_0; try clear hcz12_1; try clear hcz12_2; try clear hcz26_0; try clear hcz26_1
    try clear hcz26_2; try clear hcz35_0; try clear hcz35_1; try clear hcz35_2; try clear hcz40_0; try clear hcz40_1; try clear hcz40_2; try clear hcz71_0; try clear hcz71_1; try clear hcz71_2; try clear hfz12_0; try clear hfz12_1; try clear hfz12_2; try clear hfz26_0; try clear hfz26_1; try clear hfz26_2; try clear hfz35_0; try clear hfz35_1; try clear hfz35_2; try clear hfz40_0; try clear hfz40_1; try clear hfz40_2; try clear hfz71_0; try clear hfz71_1; try clear hfz71_2; try clear p2
    obtain ⟨kq, x86_61, rfl, HA, HJ61, HO_8, HO_12, HO_534002, BK511, BK512, BK533, HB⟩ := hcut
    have hl534002_61 := (Kd.R_reads' HO_534002.out).1
    rw [hl534002_61] at HO_534002
    (try simp only [hl534002_61])
    (try simp only [hl534002_61] at BK511)
    (try simp only [hl534002_61] at BK512)
    (try simp only [hl534002_61] at BK533)
    (try simp only [hl534002_61] at HO_8)
    (try simp only [hl534002_61] at HO_12)
    cases kq with
    | zero => exact absurd HA.out (by simp [laws_FnExactTailTurns.j1])
    | succ kj61 =>
     have H := HA.out
     clear HA
     simp only [laws_FnExactTailTurns.j1] at H
     by_cases c81 : x86_61 = true
     ·subst c81
      have H1 : (some false) = some r := by rw [if_pos rfl] at H; exact H
      clear H
      have H := H1
      clear H1
      obtain rfl := Option.some.inj H
      go_wp2
      go_ret
      exact ⟨zv17, zv1⟩
     replace c81 := Bool.eq_false_iff.mpr c81
     subst c81
     have H1 : ((laws_markIntS.f kj61 t539 1).bind fun bt559 => ((laws_heldIntS.f kj61 bt559.2 1).bind fun t561 => (if t561 < 0 then (some false) else (if t561 = bt559.1 then ((laws_toBoard.f kj61 a0_0 a0_1 l0_2).bind fun bt562 => ((laws_toLeaper.f a1_0 a1_1).bind fun bt567 => ((laws_toIntS.f kj61 l2).bind fun t569 => ((impl_TailTurns.f kj61 bt562.1 bt562.2.1 bt562.2.2 bt567.1 bt567.2 t569).bind fun bt572 => ((laws_eqIntS.f kj61 bt572.1 t524).bind fun t576 => (if t576 = true then (laws_FnExactTailTurns.j2 kj61 bt559.2 bt559.1 (bt572.2 != t527)) else (laws_FnExactTailTurns.j2 kj61 bt559.2 bt559.1 true))))))) else (some false))))) = some r := by rw [if_neg (show ¬ (false = true) by decide)] at H; exact H
     clear H
     have H := H1
     clear H1
     replace H := Option.bind_eq_some_iff.mp H
     obtain ⟨⟨t559, t560⟩, A820, H⟩ := H
     replace H : ((laws_heldIntS.f kj61 t560 1).bind fun t561 => (if t561 < 0 then (some false) else (if t561 = t559 then ((laws_toBoard.f kj61 a0_0 a0_1 l0_2).bind fun bt562 => ((laws_toLeaper.f a1_0 a1_1).bind fun bt567 => ((laws_toIntS.f kj61 l2).bind fun t569 => ((impl_TailTurns.f kj61 bt562.1 bt562.2.1 bt562.2.2 bt567.1 bt567.2 t569).bind fun bt572 => ((laws_eqIntS.f kj61 bt572.1 t524).bind fun t576 => (if t576 = true then (laws_FnExactTailTurns.j2 kj61 t560 t559 (bt572.2 != t527)) else (laws_FnExactTailTurns.j2 kj61 t560 t559 true))))))) else (some false)))) = some r := H
     have A82 := Aside0.mk A820
     clear A820
     replace H := Option.bind_eq_some_iff.mp H
     obtain ⟨t561, A830, H⟩ := H
     replace H : (if t561 < 0 then (some false) else (if t561 = t559 then ((laws_toBoard.f kj61 a0_0 a0_1 l0_2).bind fun bt562 => ((laws_toLeaper.f a1_0 a1_1).bind fun bt567 => ((laws_toIntS.f kj61 l2).bind fun t569 => ((impl_TailTurns.f kj61 bt562.1 bt562.2.1 bt562.2.2 bt567.1 bt567.2 t569).bind fun bt572 => ((laws_eqIntS.f kj61 bt572.1 t524).bind fun t576 => (if t576 = true then (laws_FnExactTailTurns.j2 kj61 t560 t559 (bt572.2 != t527)) else (laws_FnExactTailTurns.j2 kj61 t560 t559 true))))))) else (some false))) = some r := H
     have A83 := Aside0.mk A830
     clear A830
     by_cases c84 : t561 < 0
     ·rw [if_pos c84] at H
      have c84b0 : decide (t561 < 0) = true := decide_eq_true c84
      clear c84
      obtain rfl := Option.some.inj H
      obtain ⟨Ao85, co85, eo85⟩ := Kd.R_slice HO_12.out
      subst eo85
      go_wp2_with (first | ((with_reducible refine gate_callee (f := 24) rfl ?_); refine goesL_ (some 89) rfl rfl Try.func24 (by kernel_rfl) rfl #[.slice Ao85 t539.length co85, .int .i64 1] rfl zv3 ?_; (with_reducible refine (laws_markIntS.calls kj61 (fun k_ => some k_ = (.slice Ao85 t539.length co85 : Value).ownBlock) (.slice Ao85 t539.length co85) t539 1 t559 t560 w _ ?side1 ?side2 A82.out).mono ?_); (case side1 => exact zv1); (case side2 => exact Kd.R_tight rfl HO_12.out); rintro e w86 ⟨rfl, hy0, hb, hkp⟩; refine ⟨_, rfl, ?_⟩; have n0_ := Aside0.mk (Kd.R_mono (ok' := fun k_ => some k_ ≠ (.slice Ao85 t539.length co85 : Value).ownBlock ∧ some k_ ≠ (.slice Ao41 t555.length co41 : Value).ownBlock) (Kd.R_keptB (HO_8.out) hkp (fun k_ hk_ hs_ => (hk_.1) hs_)) (fun k_ hk_ => ⟨hk_.1.1, hk_.1.2⟩)); have n1_ := Aside0.mk (Kd.R_reok rfl hy0 (fun k_ e_ => HO_12.out.1 k_ e_)); have n2_ := Aside0.mk (Kd.R_mono (ok' := fun k_ => some k_ ≠ (v525 : Value).ownBlock ∧ some k_ ≠ (.slice Ao85 t539.length co85 : Value).ownBlock) (Kd.R_keptB (HO_534002.out) hkp (fun k_ hk_ hs_ => (hk_.2) hs_)) (fun k_ hk_ => ⟨hk_.1.1, hk_.1.2⟩)); have n3_ := Aside0.mk (blk_kept zv2 hkp (fun hs_ => (fun e_ => (Kd.R_ne HO_12.out BK511.out (by decide)) e_) hs_)); have n4_ := Aside0.mk (blk_kept zv4 hkp (fun hs_ => (fun e_ => (Kd.R_ne HO_12.out BK512.out (by decide)) e_) hs_)); have n5_ := Aside0.mk (blk_kept zv7 hkp (fun hs_ => (fun e_ => (Kd.R_ne HO_12.out BK533.out (by decide)) e_) hs_)); have n6_ := Aside0.mk (hb); clear HO_8; clear HO_12; clear HO_534002; clear BK511; clear BK512; clear BK533; clear HB; have HO_8 := n0_; have HO_12 := n1_; have HO_534002 := n2_; have BK511 := n3_; have BK512 := n4_; have BK533 := n5_; have HB := n6_; clear n0_ n1_ n2_ n3_ n4_ n5_ n6_; (try clear hb); (try clear hkp); (try clear hy0)) | ((with_reducible refine gate_callee (f := 25) rfl ?_); refine goesL_ (some 92) rfl rfl Try.func25 (by kernel_rfl) rfl #[.slice Ao85 t560.length co85, .int .i64 1] rfl zv23 ?_; (with_reducible refine (laws_heldIntS.calls kj61 _ _ t560 1 t561 _ ?side1 ?side2 A83.out).mono ?_); (case side1 => exact zv14); (case side2 => exact zv37); rintro e w' ⟨rfl, ⟨nd, rfl⟩⟩; refine ⟨_, rfl, ?_⟩))
      go_ret
      exact ⟨zv17, zv1⟩
     rw [if_neg c84] at H
     have c84b0 : decide (t561 < 0) = false := decide_eq_false c84
     clear c84
     by_cases c87 : t561 = t559
     rotate_left
     ·rw [if_neg c87] at H
      have c87b0 : (t561 == t559) = false := beq_eq_false_iff_ne.mpr c87
      have c87b1 : (t561 != t559) = true := bne_iff_ne.mpr c87
      obtain rfl := Option.some.inj H
      obtain ⟨Ao112, co112, eo112⟩ := Kd.R_slice HO_12.out
      subst eo112
      go_wp2_with (first | ((with_reducible refine gate_callee (f := 24) rfl ?_); refine goesL_ (some 89) rfl rfl Try.func24 (by kernel_rfl) rfl #[.slice Ao112 t539.length co112, .int .i64 1] rfl zv3 ?_; (with_reducible refine (laws_markIntS.calls kj61 (fun k_ => some k_ = (.slice Ao112 t539.length co112 : Value).ownBlock) (.slice Ao112 t539.length co112) t539 1 t559 t560 w _ ?side1 ?side2 A82.out).mono ?_); (case side1 => exact zv1); (case side2 => exact Kd.R_tight rfl HO_12.out); rintro e w113 ⟨rfl, hy0, hb, hkp⟩; refine ⟨_, rfl, ?_⟩; have n0_ := Aside0.mk (Kd.R_mono (ok' := fun k_ => some k_ ≠ (.slice Ao112 t539.length co112 : Value).ownBlock ∧ some k_ ≠ (.slice Ao41 t555.length co41 : Value).ownBlock) (Kd.R_keptB (HO_8.out) hkp (fun k_ hk_ hs_ => (hk_.1) hs_)) (fun k_ hk_ => ⟨hk_.1.1, hk_.1.2⟩)); have n1_ := Aside0.mk (Kd.R_reok rfl hy0 (fun k_ e_ => HO_12.out.1 k_ e_)); have n2_ := Aside0.mk (Kd.R_mono (ok' := fun k_ => some k_ ≠ (v525 : Value).ownBlock ∧ some k_ ≠ (.slice Ao112 t539.length co112 : Value).ownBlock) (Kd.R_keptB (HO_534002.out) hkp (fun k_ hk_ hs_ => (hk_.2) hs_)) (fun k_ hk_ => ⟨hk_.1.1, hk_.1.2⟩)); have n3_ := Aside0.mk (blk_kept zv2 hkp (fun hs_ => (fun e_ => (Kd.R_ne HO_12.out BK511.out (by decide)) e_) hs_)); have n4_ := Aside0.mk (blk_kept zv4 hkp (fun hs_ => (fun e_ => (Kd.R_ne HO_12.out BK512.out (by decide)) e_) hs_)); have n5_ := Aside0.mk (blk_kept zv7 hkp (fun hs_ => (fun e_ => (Kd.R_ne HO_12.out BK533.out (by decide)) e_) hs_)); have n6_ := Aside0.mk (hb); clear HO_8; clear HO_12; clear HO_534002; clear BK511; clear BK512; clear BK533; clear HB; have HO_8 := n0_; have HO_12 := n1_; have HO_534002 := n2_; have BK511 := n3_; have BK512 := n4_; have BK533 := n5_; have HB := n6_; clear n0_ n1_ n2_ n3_ n4_ n5_ n6_; (try clear hb); (try clear hkp); (try clear hy0)) | ((with_reducible refine gate_callee (f := 25) rfl ?_); refine goesL_ (some 92) rfl rfl Try.func25 (by kernel_rfl) rfl #[.slice Ao112 t560.length co112, .int .i64 1] rfl zv23 ?_; (with_reducible refine (laws_heldIntS.calls kj61 _ _ t560 1 t561 _ ?side1 ?side2 A83.out).mono ?_); (case side1 => exact zv14); (case side2 => exact zv37); rintro e w' ⟨rfl, ⟨nd, rfl⟩⟩; refine ⟨_, rfl, ?_⟩))
      go_ret
      exact ⟨zv17, zv1⟩
     rw [if_pos c87] at H
     have c87b0 : (t561 == t559) = true := beq_iff_eq.mpr c87
     have c87b1 : (t561 != t559) = false := bne_eq_false_iff_eq.mpr c87
     clear c87
     replace H := Option.bind_eq_some_iff.mp H
     obtain ⟨⟨t562, t563, t564⟩, A880, H⟩ := H
     replace H : ((laws_toLeaper.f a1_0 a1_1).bind fun bt567 => ((laws_toIntS.f kj61 l2).bind fun t569 => ((impl_TailTurns.f kj61 t562 t563 t564 bt567.1 bt567.2 t569).bind fun bt572 => ((laws_eqIntS.f kj61 bt572.1 t524).bind fun t576 => (if t576 = true then (laws_FnExactTailTurns.j2 kj61 t560 t559 (bt572.2 != t527)) else (laws_FnExactTailTurns.j2 kj61 t560 t559 true)))))) = some r := H
     have A88 := Aside0.mk A880
     clear A880
     replace H := Option.bind_eq_some_iff.mp H
     obtain ⟨⟨t567, t568⟩, A890, H⟩ := H
     replace H : ((laws_toIntS.f kj61 l2).bind fun t569 => ((impl_TailTurns.f kj61 t562 t563 t564 t567 t568 t569).bind fun bt572 => ((laws_eqIntS.f kj61 bt572.1 t524).bind fun t576 => (if t576 = true then (laws_FnExactTailTurns.j2 kj61 t560 t559 (bt572.2 != t527)) else (laws_FnExactTailTurns.j2 kj61 t560 t559 true))))) = some r := H
     have A89 := Aside0.mk A890
     clear A890
     replace H := Option.bind_eq_some_iff.mp H
     obtain ⟨t569, A900, H⟩ := H
     replace H : ((impl_TailTurns.f kj61 t562 t563 t564 t567 t568 t569).bind fun bt572 => ((laws_eqIntS.f kj61 bt572.1 t524).bind fun t576 => (if t576 = true then (laws_FnExactTailTurns.j2 kj61 t560 t559 (bt572.2 != t527)) else (laws_FnExactTailTurns.j2 kj61 t560 t559 true)))) = some r := H
     have A90 := Aside0.mk A900
     clear A900
     replace H := Option.bind_eq_some_iff.mp H
     obtain ⟨⟨t572, t575⟩, A910, H⟩ := H
     replace H : ((laws_eqIntS.f kj61 t572 t524).bind fun t576 => (if t576 = true then (laws_FnExactTailTurns.j2 kj61 t560 t559 (t575 != t527)) else (laws_FnExactTailTurns.j2 kj61 t560 t559 true))) = some r := H
     have A91 := Aside0.mk A910
     clear A910
     have HC92 := Aside0.mk H
     clear H
     obtain ⟨Ao93, co93, eo93⟩ := Kd.R_slice HO_12.out
     subst eo93
     try go_wp2_with (first | ((with_reducible refine gate_callee (f := 24) rfl ?_); refine goesL_ (some 89) rfl rfl Try.func24 (by kernel_rfl) rfl #[.slice Ao93 t539.length co93, .int .i64 1] rfl zv3 ?_; (with_reducible refine (laws_markIntS.calls kj61 (fun k_ => some k_ = (.slice Ao93 t539.length co93 : Value).ownBlock) (.slice Ao93 t539.length co93) t539 1 t559 t560 w _ ?side1 ?side2 A82.out).mono ?_); (case side1 => exact zv1); (case side2 => exact Kd.R_tight rfl HO_12.out); rintro e w94 ⟨rfl, hy0, hb, hkp⟩; refine ⟨_, rfl, ?_⟩; have n0_ := Aside0.mk (Kd.R_mono (ok' := fun k_ => some k_ ≠ (.slice Ao93 t539.length co93 : Value).ownBlock ∧ some k_ ≠ (.slice Ao41 t555.length co41 : Value).ownBlock) (Kd.R_keptB (HO_8.out) hkp (fun k_ hk_ hs_ => (hk_.1) hs_)) (fun k_ hk_ => ⟨hk_.1.1, hk_.1.2⟩)); have n1_ := Aside0.mk (Kd.R_reok rfl hy0 (fun k_ e_ => HO_12.out.1 k_ e_)); have n2_ := Aside0.mk (Kd.R_mono (ok' := fun k_ => some k_ ≠ (v525 : Value).ownBlock ∧ some k_ ≠ (.slice Ao93 t539.length co93 : Value).ownBlock) (Kd.R_keptB (HO_534002.out) hkp (fun k_ hk_ hs_ => (hk_.2) hs_)) (fun k_ hk_ => ⟨hk_.1.1, hk_.1.2⟩)); have n3_ := Aside0.mk (blk_kept zv2 hkp (fun hs_ => (fun e_ => (Kd.R_ne HO_12.out BK511.out (by decide)) e_) hs_)); have n4_ := Aside0.mk (blk_kept zv4 hkp (fun hs_ => (fun e_ => (Kd.R_ne HO_12.out BK512.out (by decide)) e_) hs_)); have n5_ := Aside0.mk (blk_kept zv7 hkp (fun hs_ => (fun e_ => (Kd.R_ne HO_12.out BK533.out (by decide)) e_) hs_)); have n6_ := Aside0.mk (hb); clear HO_8; clear HO_12; clear HO_534002; clear BK511; clear BK512; clear BK533; clear HB; have HO_8 := n0_; have HO_12 := n1_; have HO_534002 := n2_; have BK511 := n3_; have BK512 := n4_; have BK533 := n5_; have HB := n6_; clear n0_ n1_ n2_ n3_ n4_ n5_ n6_; (try clear hb); (try clear hkp); (try clear hy0)) | ((with_reducible refine gate_callee (f := 25) rfl ?_); refine goesL_ (some 92) rfl rfl Try.func25 (by kernel_rfl) rfl #[.slice Ao93 t560.length co93, .int .i64 1] rfl zv23 ?_; (with_reducible refine (laws_heldIntS.calls kj61 _ _ t560 1 t561 _ ?side1 ?side2 A83.out).mono ?_); (case side1 => exact zv14); (case side2 => exact zv37); rintro e w' ⟨rfl, ⟨nd, rfl⟩⟩; refine ⟨_, rfl, ?_⟩))
     (try (rw [drewN_self w94]; generalize hq_ : World.drewN w94 _ = w94; have n0_ : Aside0 (Kd.R (Kd.int .i64) 3 w94 w.heap.size (fun k_ => (some k_ ≠ (v525 : Value).ownBlock ∧ some k_ ≠ (.slice Ao41 t555.length co41 : Value).ownBlock)) (.slice Ao93 t539.length co93) t560) := ⟨by rw [← hq_]; exact zv9⟩; have n1_ : Aside0 (Kd.R (Kd.int .i64) 3 w94 w.heap.size (fun k_ => (some k_ ≠ (v525 : Value).ownBlock ∧ some k_ ≠ (.slice Ao93 t539.length co93 : Value).ownBlock)) (.slice Ao41 t555.length co41) t555) := ⟨by rw [← hq_]; exact zv8⟩; have n2_ : Aside0 (Kd.R (Kd.int .i64) 3 w94 w.heap.size (fun k_ => (some k_ ≠ (.slice Ao93 t539.length co93 : Value).ownBlock ∧ some k_ ≠ (.slice Ao41 t555.length co41 : Value).ownBlock)) v525 t524) := ⟨by rw [← hq_]; exact zv10⟩; have n3_ : Aside0 (w94.heap[gb511]? = some (.cells #[.int .i64 a0_0, .int .i64 a0_1, .slice A0_2 l0_2.length c0_2] 24 (0, 0))) := ⟨by rw [← hq_]; exact zv2⟩; have n4_ : Aside0 (w94.heap[gb512]? = some (.cells #[.int .i64 a1_0, .int .i64 a1_1] 26 (0, 0))) := ⟨by rw [← hq_]; exact zv4⟩; have n5_ : Aside0 (w94.heap[gb533]? = some (.cells #[.int .i64 t528, .int .i64 t529, .slice Ao41 t555.length co41] 30 (0, 0))) := ⟨by rw [← hq_]; exact zv7⟩; have n6_ : Aside0 (Below w.heap.size w w94) := ⟨by rw [← hq_]; exact zv1⟩; clear HO_12 HO_534002 HO_8 BK511 BK512 BK533 HB hq_; have HO_12 := n0_; have HO_534002 := n1_; have HO_8 := n2_; have BK511 := n3_; have BK512 := n4_; have BK533 := n5_; have HB := n6_; clear n0_ n1_ n2_ n3_ n4_ n5_ n6_))
     have n0_ := Aside0.mk (Kd.R_drew HO_8.out)
     have n1_ := Aside0.mk (Kd.R_drew HO_12.out)
     have n2_ := Aside0.mk (Kd.R_drew HO_534002.out)
     have n3_ := Aside0.mk (blk_drew BK511.out)
     have n4_ := Aside0.mk (blk_drew BK512.out)
     have n5_ := Aside0.mk (blk_drew BK533.out)
     have n6_ := Aside0.mk (below_drew1 HB.out)
     clear HO_8
     clear HO_12
     clear HO_534002
     clear BK511
     clear BK512
     clear BK533
     clear HB
     have HO_8 := n0_
     have HO_12 := n1_
     have HO_534002 := n2_
     have BK511 := n3_
     have BK512 := n4_
     have BK533 := n5_
     have HB := n6_
     clear n0_ n1_ n2_ n3_ n4_ n5_ n6_
     refine start_ (n := 12) (S := fun w' => w'.cell? ⟨gb511, 0, none⟩ = some (.int .i64 a0_0) ∧ w'.cell? ⟨gb511, 1, none⟩ = some (.int .i64 a0_1) ∧ w'.cell? ⟨gb511, 2, none⟩ = some (.slice A0_2 l0_2.length c0_2) ∧ w'.cell? ⟨gb512, 0, none⟩ = some (.int .i64 a1_0) ∧ w'.cell? ⟨gb512, 1, none⟩ = some (.int .i64 a1_1)) (ds := []) #[false, false, false, false, false, false, false, false, false, false, false, false] (by kernel_rfl) rfl rfl ⟨(blk_cell BK511.out 0).trans rfl, (blk_cell BK511.out 1).trans rfl, (blk_cell BK511.out 2).trans rfl, (blk_cell BK512.out 0).trans rfl, (blk_cell BK512.out 1).trans rfl⟩ (fun hHeld => ?_); refine with_tabW laws_FnExactTailTurns.tab30 laws_FnExactTailTurns.bits30 (fun HT_ HW_ => ?_)
     generalize w94.drew = w95 at HO_8 HO_12 HO_534002 BK511 BK512 BK533 HB hHeld ⊢
     refine pure_ (i := 4) (N := some 103) (v := ?_) (a' := ?_) #[false, false, false, false, true, false, false, false, false, false, false, false] rfl rfl (any_of HT_.out (by kernel_rfl)) (fun _ _ _ h => h) (Or.inl ⟨by rfl, ?_⟩) ?_ ?_
     rotate_left
     ·intro w'
      go_simp
      with_reducible rfl
     rotate_left
     ·simp only [Act.put, List.setIfInBounds_toArray, List.set_cons_zero, List.set_cons_succ, i64_w, i32_w]
      rfl
     refine take_ (i := 0) (N := some 99) (v := ?_) (a' := ?_) #[true, false, false, false, true, false, false, false, false, false, false, false] rfl rfl (take_ofW HT_.out HW_.out (by kernel_rfl)) (fun _ _ _ h => h) (Or.inl ⟨by rfl, ?_⟩) hHeld ?_ ?_
     rotate_left
     ·rintro w' ⟨s0, s1, s2, s3, s4⟩
      go_simp
      with_reducible rfl
     rotate_left
     ·simp only [Act.put, List.setIfInBounds_toArray, List.set_cons_zero, List.set_cons_succ, i64_w, i32_w]
      rfl
     refine take_ (i := 2) (N := some 101) (v := ?_) (a' := ?_) #[true, false, true, false, true, false, false, false, false, false, false, false] rfl rfl (take_ofW HT_.out HW_.out (by kernel_rfl)) (fun _ _ _ h => h) (Or.inl ⟨by rfl, ?_⟩) hHeld ?_ ?_
     rotate_left
     ·rintro w' ⟨s0, s1, s2, s3, s4⟩
      go_simp
      with_reducible rfl
     rotate_left
     ·simp only [Act.put, List.setIfInBounds_toArray, List.set_cons_zero, List.set_cons_succ, i64_w, i32_w]
      rfl
     refine one_ (i := 1) (N := some 100) #[true, true, true, false, true, false, false, false, false, false, false, false] rfl rfl (one_of HT_.out (by kernel_rfl)) (by decide) (fun K hK => ?_)
     refine goes_ Try.func17 (by kernel_rfl) rfl #[.agg #[.int .i64 a0_0, .int .i64 a0_1, .slice A0_2 l0_2.length c0_2]] (by rfl) rfl rfl zv3 ?_
     with_reducible refine (laws_toBoard.calls kj61 a0_0 a0_1 _ _ l0_2 t562 t563 t564 _ ?side1 ?side2 A88.out).mono ?_
     (case side1 => exact zv13)
     (case side2 => exact HC0_2.out)
     rintro e w96 ⟨v565, rfl, ho0, hb⟩
     refine ⟨_, rfl, ?_⟩
     have n0_ := Aside0.mk (Kd.R_elder' zv10 (Kd.R_base ho0) hb)
     have n1_ := Aside0.mk (Kd.R_elder' zv9 (Kd.R_base ho0) hb)
     have n2_ := Aside0.mk (Kd.R_elder' zv8 (Kd.R_base ho0) hb)
     have n3_ := Aside0.mk (Kd.R_lower (Kd.R_new' (Kd.R_new' (Kd.R_new' ho0 (Kd.R_lt zv10)) (Kd.R_lt zv9)) (Kd.R_lt zv8)) (below_size zv1))
     have n4_ := Aside0.mk (blk_below (g := gb511) (o := .cells #[.int .i64 a0_0, .int .i64 a0_1, .slice A0_2 l0_2.length c0_2] 24 (0, 0)) zv2 hb)
     have n5_ := Aside0.mk (blk_below (g := gb512) (o := .cells #[.int .i64 a1_0, .int .i64 a1_1] 26 (0, 0)) zv4 hb)
     have n6_ := Aside0.mk (blk_below (g := gb533) (o := .cells #[.int .i64 t528, .int .i64 t529, .slice Ao41 t555.length co41] 30 (0, 0)) zv7 hb)
     have n7_ := Aside0.mk (below_step zv1 hb)
     clear HO_8
     clear HO_12
     clear HO_534002
     clear BK511
     clear BK512
     clear BK533
     clear HB
     have HO_8 := n0_
     have HO_12 := n1_
     have HO_534002 := n2_
     have HO566 := n3_
     have BK511 := n4_
     have BK512 := n5_
     have BK533 := n6_
     have HB := n7_
     clear n0_ n1_ n2_ n3_ n4_ n5_ n6_ n7_
     (try clear hb)
     (try clear hb2)
     (try clear hk)
     (try clear hi)
     (try clear ho0)
     (try clear hna_)
     (try clear hnb_)
     refine hK.out _ _ ⟨(blk_cell BK511.out 0).trans rfl, (blk_cell BK511.out 1).trans rfl, (blk_cell BK511.out 2).trans rfl, (blk_cell BK512.out 0).trans rfl, (blk_cell BK512.out 1).trans rfl⟩ (fun hHeld => ?_)
     clear hK K
     refine norm_ (a' := ?_) ?_ ?_
     rotate_left
     ·show Act.put _ (some 100) _ = _
      simp only [Act.put, List.setIfInBounds_toArray, List.set_cons_zero, List.set_cons_succ, i64_w, i32_w]
      rfl
     refine one_ (i := 3) (N := some 102) #[true, true, true, true, true, false, false, false, false, false, false, false] rfl rfl (one_of HT_.out (by kernel_rfl)) (by decide) (fun K hK => ?_)
     refine goes_ Try.func18 (by kernel_rfl) rfl #[.agg #[.int .i64 a1_0, .int .i64 a1_1]] (by rfl) rfl rfl zv3 ?_
     with_reducible refine (laws_toLeaper.calls a1_0 a1_1 t567 t568 _ A89.out).mono ?_
     rintro e w97 ⟨rfl, hb⟩
     refine ⟨_, rfl, ?_⟩
     have n0_ := Aside0.mk (Kd.R_below zv10 hb)
     have n1_ := Aside0.mk (Kd.R_below zv9 hb)
     have n2_ := Aside0.mk (Kd.R_below zv8 hb)
     have n3_ := Aside0.mk (Kd.R_below zv28 hb)
     have n4_ := Aside0.mk (blk_below (g := gb511) (o := .cells #[.int .i64 a0_0, .int .i64 a0_1, .slice A0_2 l0_2.length c0_2] 24 (0, 0)) zv2 hb)
     have n5_ := Aside0.mk (blk_below (g := gb512) (o := .cells #[.int .i64 a1_0, .int .i64 a1_1] 26 (0, 0)) zv4 hb)
     have n6_ := Aside0.mk (blk_below (g := gb533) (o := .cells #[.int .i64 t528, .int .i64 t529, .slice Ao41 t555.length co41] 30 (0, 0)) zv7 hb)
     have n7_ := Aside0.mk (below_step zv1 hb)
     clear HO_8
     clear HO_12
     clear HO_534002
     clear HO566
     clear BK511
     clear BK512
     clear BK533
     clear HB
     have HO_8 := n0_
     have HO_12 := n1_
     have HO_534002 := n2_
     have HO566 := n3_
     have BK511 := n4_
     have BK512 := n5_
     have BK533 := n6_
     have HB := n7_
     clear n0_ n1_ n2_ n3_ n4_ n5_ n6_ n7_
     (try clear hb)
     (try clear hb2)
     (try clear hk)
     (try clear hi)
     (try clear hna_)
     (try clear hnb_)
     refine hK.out _ _ ⟨(blk_cell BK511.out 0).trans rfl, (blk_cell BK511.out 1).trans rfl, (blk_cell BK511.out 2).trans rfl, (blk_cell BK512.out 0).trans rfl, (blk_cell BK512.out 1).trans rfl⟩ (fun hHeld => ?_)
     clear hK K
     refine norm_ (a' := ?_) ?_ ?_
     rotate_left
     ·show Act.put _ (some 102) _ = _
      simp only [Act.put, List.setIfInBounds_toArray, List.set_cons_zero, List.set_cons_succ, i64_w, i32_w]
      rfl
     refine one_ (i := 5) (N := some 104) #[true, true, true, true, true, true, false, false, false, false, false, false] rfl rfl (one_of HT_.out (by kernel_rfl)) (by decide) (fun K hK => ?_)
     refine goes_ Try.func19 (by kernel_rfl) rfl #[.slice A2 l2.length c2] (by rfl) rfl rfl zv3 ?_
     with_reducible refine (laws_toIntS.calls kj61 _ _ l2 t569 _ ?side1 ?side2 A90.out).mono ?_
     (case side1 => exact zv21)
     (case side2 => exact HC2.out)
     rintro e w98 ⟨v570, rfl, ho0, hb⟩
     refine ⟨_, rfl, ?_⟩
     have n0_ := Aside0.mk (Kd.R_elder' zv10 (Kd.R_base ho0) hb)
     have n1_ := Aside0.mk (Kd.R_elder' zv9 (Kd.R_base ho0) hb)
     have n2_ := Aside0.mk (Kd.R_elder' zv8 (Kd.R_base ho0) hb)
     have n3_ := Aside0.mk (Kd.R_elder' zv28 (Kd.R_base ho0) hb)
     have n4_ := Aside0.mk (Kd.R_lower (Kd.R_new' (Kd.R_new' (Kd.R_new' (Kd.R_new' ho0 (Kd.R_lt zv10)) (Kd.R_lt zv9)) (Kd.R_lt zv8)) (Kd.R_lt zv28)) (below_size zv1))
     have n5_ := Aside0.mk (blk_below (g := gb511) (o := .cells #[.int .i64 a0_0, .int .i64 a0_1, .slice A0_2 l0_2.length c0_2] 24 (0, 0)) zv2 hb)
     have n6_ := Aside0.mk (blk_below (g := gb512) (o := .cells #[.int .i64 a1_0, .int .i64 a1_1] 26 (0, 0)) zv4 hb)
     have n7_ := Aside0.mk (blk_below (g := gb533) (o := .cells #[.int .i64 t528, .int .i64 t529, .slice Ao41 t555.length co41] 30 (0, 0)) zv7 hb)
     have n8_ := Aside0.mk (below_step zv1 hb)
     clear HO_8
     clear HO_12
     clear HO_534002
     clear HO566
     clear BK511
     clear BK512
     clear BK533
     clear HB
     have HO_8 := n0_
     have HO_12 := n1_
     have HO_534002 := n2_
     have HO566 := n3_
     have HO571 := n4_
     have BK511 := n5_
     have BK512 := n6_
     have BK533 := n7_
     have HB := n8_
     clear n0_ n1_ n2_ n3_ n4_ n5_ n6_ n7_ n8_
     (try clear hb)
     (try clear hb2)
     (try clear hk)
     (try clear hi)
     (try clear ho0)
     (try clear hna_)
     (try clear hnb_)
     obtain ⟨Ao99, co99, eo99⟩ := Kd.R_slice HO566.out
     (first | subst eo99 | (injection eo99 with f1_ f2_ f3_; have f4_ := f1_.symm; have f5_ := f3_.symm; clear f1_ f2_ f3_; subst f4_; subst f5_))
     obtain ⟨Ao100, co100, eo100⟩ := Kd.R_slice HO571.out
     (first | subst eo100 | (injection eo100 with f1_ f2_ f3_; have f4_ := f1_.symm; have f5_ := f3_.symm; clear f1_ f2_ f3_; subst f4_; subst f5_))
     refine hK.out _ _ ⟨(blk_cell BK511.out 0).trans rfl, (blk_cell BK511.out 1).trans rfl, (blk_cell BK511.out 2).trans rfl, (blk_cell BK512.out 0).trans rfl, (blk_cell BK512.out 1).trans rfl⟩ (fun hHeld => ?_)
     clear hK K
     refine norm_ (a' := ?_) ?_ ?_
     rotate_left
     ·show Act.put _ (some 104) _ = _
      simp only [Act.put, List.setIfInBounds_toArray, List.set_cons_zero, List.set_cons_succ, i64_w, i32_w]
      rfl
     refine one_ (i := 6) (N := some 105) #[true, true, true, true, true, true, true, false, false, false, false, false] rfl rfl (one_of HT_.out (by kernel_rfl)) (by decide) (fun K hK => ?_)
     refine goes_ Try.func29 (by kernel_rfl) rfl #[.agg #[.int .i64 t562, .int .i64 t563, .slice Ao99 t564.length co99], .agg #[.int .i64 t567, .int .i64 t568], .slice Ao100 t569.length co100] (by rfl) rfl rfl zv3 ?_
     with_reducible refine (impl_TailTurns.calls kj61 t562 t563 _ _ t564 t567 t568 _ _ t569 t572 t575 _ ?side1 ?side2 ?side3 ?side4 A91.out).mono ?_
     (case side1 => repeat (first | exact (Kd.R_reads' HO566.out).2.2 | (with_reducible refine Kd.C_alloc ?_ _) | (with_reducible refine Kd.C_drewN ?_ _) | (with_reducible refine Kd.C_drew ?_)))
     (case side2 => exact (Kd.R_reads' HO566.out).2.1)
     (case side3 => repeat (first | exact (Kd.R_reads' HO571.out).2.2 | (with_reducible refine Kd.C_alloc ?_ _) | (with_reducible refine Kd.C_drewN ?_ _) | (with_reducible refine Kd.C_drew ?_)))
     (case side4 => exact (Kd.R_reads' HO571.out).2.1)
     rintro e w101 ⟨v573, rfl, ho0, hb⟩
     refine ⟨_, rfl, ?_⟩
     have n0_ := Aside0.mk (Kd.R_elder' zv10 (Kd.R_base ho0) hb)
     have n1_ := Aside0.mk (Kd.R_elder' zv9 (Kd.R_base ho0) hb)
     have n2_ := Aside0.mk (Kd.R_elder' zv8 (Kd.R_base ho0) hb)
     have n3_ := Aside0.mk (Kd.R_elder' zv28 (Kd.R_base ho0) hb)
     have n4_ := Aside0.mk (Kd.R_elder' (by (with_reducible repeat (first | apply Kd.R_alloc | apply Kd.R_drewN | apply Kd.R_drew)); exact HO571.out) (Kd.R_base ho0) hb)
     have n5_ := Aside0.mk (Kd.R_lower (Kd.R_new' (Kd.R_new' (Kd.R_new' (Kd.R_new' (Kd.R_new' ho0 (Kd.R_lt zv10)) (Kd.R_lt zv9)) (Kd.R_lt zv8)) (Kd.R_lt zv28)) (Kd.R_lt (by (with_reducible repeat (first | apply Kd.R_alloc | apply Kd.R_drewN | apply Kd.R_drew)); exact HO571.out))) (below_size zv1))
     have n6_ := Aside0.mk (blk_below (g := gb511) (o := .cells #[.int .i64 a0_0, .int .i64 a0_1, .slice A0_2 l0_2.length c0_2] 24 (0, 0)) zv2 hb)
     have n7_ := Aside0.mk (blk_below (g := gb512) (o := .cells #[.int .i64 a1_0, .int .i64 a1_1] 26 (0, 0)) zv4 hb)
     have n8_ := Aside0.mk (blk_below (g := gb533) (o := .cells #[.int .i64 t528, .int .i64 t529, .slice Ao41 t555.length co41] 30 (0, 0)) zv7 hb)
     have n9_ := Aside0.mk (below_step zv1 hb)
     clear HO_8
     clear HO_12
     clear HO_534002
     clear HO566
     clear HO571
     clear BK511
     clear BK512
     clear BK533
     clear HB
     have HO_8 := n0_
     have HO_12 := n1_
     have HO_534002 := n2_
     have HO566 := n3_
     have HO571 := n4_
     have HO574 := n5_
     have BK511 := n6_
     have BK512 := n7_
     have BK533 := n8_
     have HB := n9_
     clear n0_ n1_ n2_ n3_ n4_ n5_ n6_ n7_ n8_ n9_
     (try clear hb)
     (try clear hb2)
     (try clear hk)
     (try clear hi)
     (try clear ho0)
     (try clear hna_)
     (try clear hnb_)
     refine hK.out _ _ ⟨(blk_cell BK511.out 0).trans rfl, (blk_cell BK511.out 1).trans rfl, (blk_cell BK511.out 2).trans rfl, (blk_cell BK512.out 0).trans rfl, (blk_cell BK512.out 1).trans rfl⟩ (fun hHeld => ?_)
     clear hK K
     refine norm_ (a' := ?_) ?_ ?_
     rotate_left
     ·show Act.put _ (some 105) _ = _
      simp only [Act.put, List.setIfInBounds_toArray, List.set_cons_zero, List.set_cons_succ, i64_w, i32_w]
      rfl
     refine pure_ (i := 7) (N := some 98) (v := ?_) (a' := ?_) #[true, true, true, true, true, true, true, true, false, false, false, false] rfl rfl (any_of HT_.out (by kernel_rfl)) (fun _ _ _ h => h) (Or.inl ⟨by rfl, ?_⟩) ?_ ?_
     rotate_left
     ·intro w'
      go_simp
      with_reducible rfl
     rotate_left
     ·simp only [Act.put, List.setIfInBounds_toArray, List.set_cons_zero, List.set_cons_succ, i64_w, i32_w]
      rfl
     refine pure_ (i := 8) (N := some 106) (v := ?_) (a' := ?_) #[true, true, true, true, true, true, true, true, true, false, false, false] rfl rfl (any_of HT_.out (by kernel_rfl)) (fun _ _ _ h => h) (Or.inl ⟨by rfl, ?_⟩) ?_ ?_
     rotate_left
     ·intro w'
      go_simp
      with_reducible rfl
     rotate_left
     ·simp only [Act.put, List.setIfInBounds_toArray, List.set_cons_zero, List.set_cons_succ, i64_w, i32_w]
      rfl
     refine pure_ (i := 9) (N := some 107) (v := ?_) (a' := ?_) #[true, true, true, true, true, true, true, true, true, true, false, false] rfl rfl (any_of HT_.out (by kernel_rfl)) (fun _ _ _ h => h) (Or.inl ⟨by rfl, ?_⟩) ?_ ?_
     rotate_left
     ·intro w'
      go_simp
      with_reducible rfl
     rotate_left
     ·simp only [Act.put, List.setIfInBounds_toArray, List.set_cons_zero, List.set_cons_succ, i64_w, i32_w]
      rfl
     refine pure_ (i := 10) (N := some 17) (v := ?_) (a' := ?_) #[true, true, true, true, true, true, true, true, true, true, true, false] rfl rfl (any_of HT_.out (by kernel_rfl)) (fun _ _ _ h => h) (Or.inl ⟨by rfl, ?_⟩) ?_ ?_
     rotate_left
     ·intro w'
      go_simp
      with_reducible rfl
     rotate_left
     ·simp only [Act.put, List.setIfInBounds_toArray, List.set_cons_zero, List.set_cons_succ, i64_w, i32_w]
      rfl
     refine pure_ (i := 11) (N := some 18) (v := ?_) (a' := ?_) #[true, true, true, true, true, true, true, true, true, true, true, true] rfl rfl (any_of HT_.out (by kernel_rfl)) (fun _ _ _ h => h) (Or.inl ⟨by rfl, ?_⟩) ?_ ?_
     rotate_left
     ·intro w'
      go_simp
      with_reducible rfl
     rotate_left
     ·simp only [Act.put, List.setIfInBounds_toArray, List.set_cons_zero, List.set_cons_succ, i64_w, i32_w]
      rfl
     refine done_ (done_of HT_.out (by kernel_rfl)) ?_
     go_upto_region 31 with (fail)
     go_cut [116] (fun v116 wc => ∃ (kq : Nat) (x116_91 : Bool), v116 = .bool x116_91 ∧ Aside0 (laws_FnExactTailTurns.j2 kq t560 t559 x116_91 = some r) ∧ Aside0 (kq ≤ kj61) ∧ Aside0 (Kd.R (Kd.int .i64) 3 wc w.heap.size (fun k_ => some k_ ≠ ((.slice Ao41 t555.length co41) : Value).ownBlock) (.slice Ao93 t539.length co93) t560) ∧ Aside0 (Kd.R (Kd.int .i64) 3 wc w.heap.size (fun k_ => some k_ ≠ ((.slice Ao93 t539.length co93) : Value).ownBlock) (.slice Ao41 t555.length co41) t555) ∧ Aside0 (wc.heap[gb511]? = some (.cells #[.int .i64 a0_0, .int .i64 a0_1, (.slice A0_2 l0_2.length c0_2)] 24 (0, 0))) ∧ Aside0 (wc.heap[gb512]? = some (.cells #[.int .i64 a1_0, .int .i64 a1_1] 26 (0, 0))) ∧ Aside0 (wc.heap[gb533]? = some (.cells #[.int .i64 t528, .int .i64 t529, (.slice Ao41 t555.length co41)] 30 (0, 0))) ∧ Aside0 (Below w.heap.size w wc))
     case first =>
      have H := HC92.out
      clear HC92
      replace H := Option.bind_eq_some_iff.mp H
      obtain ⟨t576, A1020, H⟩ := H
      replace H : (if t576 = true then (laws_FnExactTailTurns.j2 kj61 t560 t559 (t575 != t527)) else (laws_FnExactTailTurns.j2 kj61 t560 t559 true)) = some r := H
      have A102 := Aside0.mk A1020
      clear A1020
      by_cases c103 : t576 = true
      ·subst c103
       have H1 : (laws_FnExactTailTurns.j2 kj61 t560 t559 (t575 != t527)) = some r := by rw [if_pos rfl] at H; exact H
       clear H
       have H := H1
       clear H1
       have H' := Aside0.mk H
       clear H
       obtain ⟨Ao104, co104, eo104⟩ := Kd.R_slice HO574.out
       subst eo104
       obtain ⟨Ao105, co105, eo105⟩ := Kd.R_slice HO_8.out
       subst eo105
       go_wp2_with (first | ((with_reducible refine gate_callee (f := 21) rfl ?_); refine goesL_ (some 110) rfl rfl Try.func21 (by kernel_rfl) rfl #[.slice Ao104 t572.length co104, .slice Ao105 t524.length co105] rfl zv3 ?_; (with_reducible refine (laws_eqIntS.calls kj61 _ _ t572 _ _ t524 true _ ?side1 ?side2 ?side3 ?side4 A102.out).mono ?_); (case side1 => exact zv45); (case side2 => exact (Kd.R_reads' HO574.out).2.1); (case side3 => exact zv22); (case side4 => exact (Kd.R_reads' HO_8.out).2.1); rintro e w' ⟨rfl, ⟨nd, rfl⟩⟩; refine ⟨_, rfl, ?_⟩))
       go_meet
       case rel => exact ⟨_, ((t575 != t527)), zv35, H', ⟨by have := HJ21.out; have := HJ61.out; first | omega | exact Nat.le_refl _⟩, ⟨zv39⟩, ⟨zv38⟩, ⟨zv51⟩, ⟨zv50⟩, ⟨zv49⟩, ⟨zv1⟩⟩
      replace c103 := Bool.eq_false_iff.mpr c103
      subst c103
      have H1 : (laws_FnExactTailTurns.j2 kj61 t560 t559 true) = some r := by rw [if_neg (show ¬ (false = true) by decide)] at H; exact H
      clear H
      have H := H1
      clear H1
      have H' := Aside0.mk H
      clear H
      obtain ⟨Ao106, co106, eo106⟩ := Kd.R_slice HO574.out
      subst eo106
      obtain ⟨Ao107, co107, eo107⟩ := Kd.R_slice HO_8.out
      subst eo107
      go_wp2_with (first | ((with_reducible refine gate_callee (f := 21) rfl ?_); refine goesL_ (some 110) rfl rfl Try.func21 (by kernel_rfl) rfl #[.slice Ao106 t572.length co106, .slice Ao107 t524.length co107] rfl zv3 ?_; (with_reducible refine (laws_eqIntS.calls kj61 _ _ t572 _ _ t524 false _ ?side1 ?side2 ?side3 ?side4 A102.out).mono ?_); (case side1 => exact zv45); (case side2 => exact (Kd.R_reads' HO574.out).2.1); (case side3 => exact zv22); (case side4 => exact (Kd.R_reads' HO_8.out).2.1); rintro e w' ⟨rfl, ⟨nd, rfl⟩⟩; refine ⟨_, rfl, ?_⟩))
      go_meet
      case rel => exact ⟨_, (true), zv35, H', ⟨by have := HJ21.out; have := HJ61.out; first | omega | exact Nat.le_refl _⟩, ⟨zv39⟩, ⟨zv38⟩, ⟨zv51⟩, ⟨zv50⟩, ⟨zv49⟩, ⟨zv1⟩⟩
     case rest =>
      clear HC92
      try clear c1; try clear c2; try clear p2; try clear c3; try clear c4; try clear c4b0; try clear c4b1; try clear c5; try clear c6; try clear c7; try clear c8; try clear c8b0; try clear c10; try clear c11; try clear c15; try clear c17; try clear c18; try clear c19; try clear c21; try clear c22; try clear c23; try clear c24; try clear c25; try clear c28; try clear c29; try clear c38; try clear c39; try clear c48; try clear c53; try clear c56; try clear c59; try clear c69; try clear c70; try clear c74; try clear c74b0; try clear c76; try clear c81; try clear c84; try clear c84b0; try clear c87; try clear c87b0
      try clear c87b1; try clear c103; try clear hcz12_0; try clear hcz12_1; try clear hcz12_2; try clear hcz26_0; try clear hcz26_1; try clear hcz26_2; try clear hcz35_0; try clear hcz35_1; try clear hcz35_2; try clear hcz40_0; try clear hcz40_1; try clear hcz40_2; try clear hcz71_0; try clear hcz71_1; try clear hcz71_2; try clear hfz12_0; try clear hfz12_1; try clear hfz12_2; try clear hfz26_0; try clear hfz26_1; try clear hfz26_2; try clear hfz35_0; try clear hfz35_1; try clear hfz35_2; try clear hfz40_0; try clear hfz40_1; try clear hfz40_2; try clear hfz71_0; try clear hfz71_1; try clear hfz71_2
      try clear p2
      obtain ⟨kq, x116_91, rfl, HA, HJ91, HO_12, HO_534002, BK511, BK512, BK533, HB⟩ := hcut
      have hl12_91 := (Kd.R_reads' HO_12.out).1
      rw [hl12_91] at HO_12
      (try simp only [hl12_91])
      (try simp only [hl12_91] at BK511)
      (try simp only [hl12_91] at BK512)
      (try simp only [hl12_91] at BK533)
      (try simp only [hl12_91] at HO_534002)
      cases kq with
      | zero => exact absurd HA.out (by simp [laws_FnExactTailTurns.j2])
      | succ kj91 =>
       have H := HA.out
       clear HA
       simp only [laws_FnExactTailTurns.j2] at H
       by_cases c108 : x116_91 = true
       ·subst c108
        have H1 : (some false) = some r := by rw [if_pos rfl] at H; exact H
        clear H
        have H := H1
        clear H1
        obtain rfl := Option.some.inj H
        go_wp2
        go_ret
        exact ⟨zv17, zv1⟩
       replace c108 := Bool.eq_false_iff.mpr c108
       subst c108
       have H1 : ((laws_heldIntS.f kj91 t560 1).bind fun t577 => (if t577 < 0 then (some false) else (if t577 = t559 then (some true) else (some false)))) = some r := by rw [if_neg (show ¬ (false = true) by decide)] at H; exact H
       clear H
       have H := H1
       clear H1
       replace H := Option.bind_eq_some_iff.mp H
       obtain ⟨t577, A1090, H⟩ := H
       replace H : (if t577 < 0 then (some false) else (if t577 = t559 then (some true) else (some false))) = some r := H
       have A109 := Aside0.mk A1090
       clear A1090
       by_cases c110 : t577 < 0
       ·rw [if_pos c110] at H
        have c110b0 : decide (t577 < 0) = true := decide_eq_true c110
        clear c110
        obtain rfl := Option.some.inj H
        go_wp2_with (first | ((with_reducible refine gate_callee (f := 25) rfl ?_); refine goesL_ (some 119) rfl rfl Try.func25 (by kernel_rfl) rfl #[.slice Ao93 t560.length co93, .int .i64 1] rfl zv3 ?_; (with_reducible refine (laws_heldIntS.calls kj91 _ _ t560 1 t577 _ ?side1 ?side2 A109.out).mono ?_); (case side1 => exact zv14); (case side2 => exact (Kd.R_reads' HO_12.out).2.1); rintro e w' ⟨rfl, ⟨nd, rfl⟩⟩; refine ⟨_, rfl, ?_⟩))
        go_ret
        exact ⟨zv17, zv1⟩
       rw [if_neg c110] at H
       have c110b0 : decide (t577 < 0) = false := decide_eq_false c110
       clear c110
       by_cases c111 : t577 = t559
       rotate_left
       ·rw [if_neg c111] at H
        have c111b0 : (t577 == t559) = false := beq_eq_false_iff_ne.mpr c111
        have c111b1 : (t577 != t559) = true := bne_iff_ne.mpr c111
        obtain rfl := Option.some.inj H
        go_wp2_with (first | ((with_reducible refine gate_callee (f := 25) rfl ?_); refine goesL_ (some 119) rfl rfl Try.func25 (by kernel_rfl) rfl #[.slice Ao93 t560.length co93, .int .i64 1] rfl zv3 ?_; (with_reducible refine (laws_heldIntS.calls kj91 _ _ t560 1 t577 _ ?side1 ?side2 A109.out).mono ?_); (case side1 => exact zv14); (case side2 => exact (Kd.R_reads' HO_12.out).2.1); rintro e w' ⟨rfl, ⟨nd, rfl⟩⟩; refine ⟨_, rfl, ?_⟩))
        go_ret
        exact ⟨zv17, zv1⟩
       rw [if_pos c111] at H
       have c111b0 : (t577 == t559) = true := beq_iff_eq.mpr c111
       have c111b1 : (t577 != t559) = false := bne_eq_false_iff_eq.mpr c111
       clear c111
       obtain rfl := Option.some.inj H
       go_wp2_with (first | ((with_reducible refine gate_callee (f := 25) rfl ?_); refine goesL_ (some 119) rfl rfl Try.func25 (by kernel_rfl) rfl #[.slice Ao93 t560.length co93, .int .i64 1] rfl zv3 ?_; (with_reducible refine (laws_heldIntS.calls kj91 _ _ t560 1 t577 _ ?side1 ?side2 A109.out).mono ?_); (case side1 => exact zv14); (case side2 => exact (Kd.R_reads' HO_12.out).2.1); rintro e w' ⟨rfl, ⟨nd, rfl⟩⟩; refine ⟨_, rfl, ?_⟩))
       go_ret
       exact ⟨zv17, zv1⟩

end Go.Proofs.Ytjeongckkfkehaa.Q

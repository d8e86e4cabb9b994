/- Written by a program of this session: functions of the translation as plain Lean functions, each with a proof that the call does what the plain function says; the conditions stand in each theorem. -/
import Derived.Test.YtjeongckkfkehaaQ0
import Derived.Test.YtjeongckkfkehaaQ1
import Derived.Test.YtjeongckkfkehaaQ2
import Derived.Test.YtjeongckkfkehaaQ5
import Derived.Test.YtjeongckkfkehaaQ11
import Derived.Test.YtjeongckkfkehaaQ32
import Derived.Test.YtjeongckkfkehaaQ33
namespace Go.Proofs.Ytjeongckkfkehaa.Q
open Go.RowKit Go.Proofs.YtjeongckkfkehaaW.PrintWords Go.Proofs.YtjeongckkfkehaaW.PrintLast Go.Proofs.YtjeongckkfkehaaW.PrintMore
attribute [local go_sem] max2_int min2_int max_two min_two max_three min_three max_four min_four   -- for this text's walks alone
set_option linter.unusedVariables false
set_option linter.unusedSimpArgs false

theorem zai1 {p : Prop} (h : p := by repeat (first | (with_reducible first | exact HB.out | apply below_alloc | apply pw_below_drewN | apply below_drew1 | refine below_set ?_ GE917.out | refine below_set ?_ GE918.out | refine below_set ?_ GE939.out) | exact HB.out)) : p := h
theorem zai2 {p : Prop} (h : p := by (with_reducible repeat (first | refine blk_drewN ?_ _ | refine blk_drew ?_ | refine blk_alloc ?_ _)); exact BK917.out) : p := h
theorem zai3 {p : Prop} (h : p := by (try simp only [List.map_toArray, List.map_cons, List.map_nil]); first | done | rfl | (simp only [List.length_drop, List.length_take]; rfl)) : p := h
theorem zai4 {p : Prop} (h : p := by (with_reducible repeat (first | refine blk_drewN ?_ _ | refine blk_drew ?_ | refine blk_alloc ?_ _)); exact BK918.out) : p := h
theorem zai6 {p : Prop} (h : p := by repeat (first | (with_reducible first | exact HB.out | apply below_alloc | apply pw_below_drewN | apply below_drew1 | refine below_set ?_ GE917.out | refine below_set ?_ GE918.out) | exact HB.out)) : p := h
theorem zai7 {p : Prop} (h : p := by (with_reducible repeat (first | refine blk_drewN ?_ _ | refine blk_drew ?_ | refine blk_alloc ?_ _)); exact BK939.out) : p := h
theorem zai8 {p : Prop} (h : p := by (with_reducible repeat (first | apply Kd.R_alloc | apply Kd.R_drewN | apply Kd.R_drew)); exact HO_940002.out) : p := h
theorem zai9 {p : Prop} (h : p := by (with_reducible repeat (first | apply Kd.R_alloc | apply Kd.R_drewN | apply Kd.R_drew)); exact HO_12.out) : p := h
theorem zai10 {p : Prop} (h : p := by (with_reducible repeat (first | apply Kd.R_alloc | apply Kd.R_drewN | apply Kd.R_drew)); exact HO_8.out) : p := h
theorem zai11 {p : Prop} (h : p := by repeat (first | (with_reducible first | exact HB.out | apply below_alloc | apply pw_below_drewN | apply below_drew1 | refine below_set ?_ GE917.out) | exact HB.out)) : p := h
theorem zai12 {p : Prop} (h : p := by (with_reducible repeat (first | apply Kd.R_alloc | apply Kd.R_drewN | apply Kd.R_drew)); exact HO_11.out) : p := h
theorem zai13 {p : Prop} (h : p := by repeat (first | exact (Kd.C_below HR0_2.out HB.out) | (with_reducible refine Kd.C_alloc ?_ _) | (with_reducible refine Kd.C_drewN ?_ _) | (with_reducible refine Kd.C_drew ?_))) : p := h
theorem zai14 {p : Prop} (h : p := by repeat (first | exact (Kd.R_reads' HO_12.out).2.2 | (with_reducible refine Kd.C_alloc ?_ _) | (with_reducible refine Kd.C_drewN ?_ _) | (with_reducible refine Kd.C_drew ?_))) : p := h
theorem zai15 {p : Prop} (h : p := by repeat (first | (with_reducible first | exact HB.out | apply below_alloc | apply pw_below_drewN | apply below_drew1) | exact HB.out)) : p := h
theorem zai16 {p : Prop} (h : p := by (with_reducible repeat (first | apply Kd.R_alloc | apply Kd.R_drewN | apply Kd.R_drew)); exact HO924.out) : p := h
theorem zai17 {p : Prop} (h : p := by first | rfl | (simp [errW_none, errW_some] <;> rfl) | (simp [*, errW_none, errW_some] <;> rfl)) : p := h
theorem zai18 {p : Prop} (h : p := by (with_reducible repeat (first | apply Kd.R_alloc | apply Kd.R_drewN | apply Kd.R_drew)); exact HO929.out) : p := h
theorem zai19 {p : Prop} (h : p := by (with_reducible repeat (first | apply Kd.R_alloc | apply Kd.R_drewN | apply Kd.R_drew)); exact HO954.out) : p := h
theorem zai20 {p : Prop} (h : p := by (with_reducible repeat (first | apply Kd.R_alloc | apply Kd.R_drewN | apply Kd.R_drew)); exact HO932.out) : p := h
theorem zai21 {p : Prop} (h : p := by repeat (first | exact (Kd.C_below HR2.out HB.out) | (with_reducible refine Kd.C_alloc ?_ _) | (with_reducible refine Kd.C_drewN ?_ _) | (with_reducible refine Kd.C_drew ?_))) : p := h
theorem zai22 {p : Prop} (h : p := by repeat (first | exact (Kd.R_reads' HO_8.out).2.2 | (with_reducible refine Kd.C_alloc ?_ _) | (with_reducible refine Kd.C_drewN ?_ _) | (with_reducible refine Kd.C_drew ?_))) : p := h
theorem zai23 {p : Prop} (h : p := by (try simp only [List.map_toArray, List.map_cons, List.map_nil]); first | done | (rw [show t966.length = t945.length from (Kd.R_reads' HO_12.out).1.symm] <;> rfl) | rfl | (simp only [List.length_drop, List.length_take]; rfl)) : p := h
theorem zai24 {p : Prop} (h : p := by (with_reducible repeat (first | apply Kd.R_alloc | apply Kd.R_drewN | apply Kd.R_drew)); exact (Kd.R_mono (Kd.R_far (p := ⟨gb939, 2, none⟩) (Kd.R_far (p := ⟨gb939, 1, none⟩) (Kd.R_far (p := ⟨gb939, 0, none⟩) (Kd.R_types HO938.out BK939.out (by decide)) (fun _ hk => hk.2) (.int .i64 t934)) (fun _ hk => hk.2) (.int .i64 t935)) (fun _ hk => hk.2) (.slice Ao41 t936.length co41)) (fun _ h_ => h_.1))) : p := h
theorem zai25 {p : Prop} (h : p := by (with_reducible repeat (first | apply Kd.R_alloc | apply Kd.R_drewN | apply Kd.R_drew)); exact (Kd.R_mono (Kd.R_far (p := ⟨gb939, 2, none⟩) (Kd.R_far (p := ⟨gb939, 1, none⟩) (Kd.R_far (p := ⟨gb939, 0, none⟩) (Kd.R_types HO932.out BK939.out (by decide)) (fun _ hk => hk.2) (.int .i64 t934)) (fun _ hk => hk.2) (.int .i64 t935)) (fun _ hk => hk.2) (.slice Ao41 t936.length co41)) (fun _ h_ => h_.1))) : p := h
theorem zai26 {p : Prop} (h : p := by (with_reducible repeat (first | apply Kd.R_alloc | apply Kd.R_drewN | apply Kd.R_drew)); exact (Kd.R_mono (Kd.R_far (p := ⟨gb939, 2, none⟩) (Kd.R_far (p := ⟨gb939, 1, none⟩) (Kd.R_far (p := ⟨gb939, 0, none⟩) (Kd.R_types HO929.out BK939.out (by decide)) (fun _ hk => hk.2) (.int .i64 t934)) (fun _ hk => hk.2) (.int .i64 t935)) (fun _ hk => hk.2) (.slice Ao41 t936.length co41)) (fun _ h_ => h_.1))) : p := h
theorem zai27 {p : Prop} (h : p := by (with_reducible repeat (first | apply Kd.R_alloc | apply Kd.R_drewN | apply Kd.R_drew)); exact (Kd.R_mono (Kd.R_far (p := ⟨gb939, 2, none⟩) (Kd.R_far (p := ⟨gb939, 1, none⟩) (Kd.R_far (p := ⟨gb939, 0, none⟩) (Kd.R_types HO924.out BK939.out (by decide)) (fun _ hk => hk.2) (.int .i64 t934)) (fun _ hk => hk.2) (.int .i64 t935)) (fun _ hk => hk.2) (.slice Ao41 t936.length co41)) (fun _ h_ => h_.1))) : p := h
theorem zai28 {p : Prop} (h : p := by (with_reducible repeat (first | apply Kd.R_alloc | apply Kd.R_drewN | apply Kd.R_drew)); exact HO972.out) : p := h
theorem zai29 {p : Prop} (h : p := by repeat (first | exact (Kd.R_reads' HO_940002.out).2.2 | (with_reducible refine Kd.C_alloc ?_ _) | (with_reducible refine Kd.C_drewN ?_ _) | (with_reducible refine Kd.C_drew ?_))) : p := h
theorem zai30 {p : Prop} (h : p := by repeat (first | exact (Kd.R_reads' HO954.out).2.2 | (with_reducible refine Kd.C_alloc ?_ _) | (with_reducible refine Kd.C_drewN ?_ _) | (with_reducible refine Kd.C_drew ?_))) : p := h
theorem zai31 {p : Prop} (h : p := by (with_reducible repeat (first | apply Kd.R_alloc | apply Kd.R_drewN | apply Kd.R_drew)); exact HO938.out) : p := h
theorem zai32 {p : Prop} (h : p := by (with_reducible repeat (first | apply Kd.R_alloc | apply Kd.R_drewN | apply Kd.R_drew)); exact Kd.R_mono HO_940002.out (fun _ hk => ⟨hk.1, hk.2.2.1⟩)) : p := h
theorem zai33 {p : Prop} (h : p := by (with_reducible repeat (first | apply Kd.R_alloc | apply Kd.R_drewN | apply Kd.R_drew)); exact Kd.R_mono HO_8.out (fun _ hk => ⟨hk.2.1, hk.2.2.1⟩)) : p := h
theorem zai34 {p : Prop} (h : p := by (with_reducible repeat (first | apply Kd.R_alloc | apply Kd.R_drewN | apply Kd.R_drew)); exact Kd.R_mono HO_12.out (fun _ hk => ⟨hk.1, hk.2.2.1⟩)) : p := h
theorem zai35 {p : Prop} (h : p := by first | rfl | (simp; done) | (simp [*]; done)) : p := h
theorem zai36 {p : Prop} (h : p := by (with_reducible repeat (first | apply Kd.R_alloc | apply Kd.R_drewN | apply Kd.R_drew)); exact HO942.out) : p := h
theorem zai37 {p : Prop} (h : p := by rw [show t966.length = t945.length from (Kd.R_reads' HO_12.out).1.symm]; exact (Kd.R_reads' HO_12.out).2.1) : p := h
theorem zai38 {p : Prop} (h : p := by (try simp only [hl940002_61]); (with_reducible repeat (first | apply Kd.R_alloc | apply Kd.R_drewN | apply Kd.R_drew)); exact Kd.R_mono HO_940002.out (fun _ hk => hk.1.1.1.2)) : p := h
theorem zai39 {p : Prop} (h : p := by (try simp only [hl940002_61]); (with_reducible repeat (first | apply Kd.R_alloc | apply Kd.R_drewN | apply Kd.R_drew)); exact Kd.R_mono HO_12.out (fun _ hk => hk.1.1.1.2)) : p := h
theorem zai40 {p : Prop} (h : p := by (with_reducible repeat (first | apply Kd.R_alloc | apply Kd.R_drewN | apply Kd.R_drew)); exact Kd.R_mono HO947.out (fun _ hk => ⟨hk.1.1.2, ⟨hk.2, hk.1.2⟩⟩)) : p := h
theorem zai41 {p : Prop} (h : p := by (with_reducible repeat (first | apply Kd.R_alloc | apply Kd.R_drewN | apply Kd.R_drew)); exact Kd.R_mono HO942.out (fun _ hk => ⟨hk.1.1.2, ⟨hk.2, hk.1.2⟩⟩)) : p := h
theorem zai42 {p : Prop} (h : p := by (with_reducible repeat (first | apply Kd.R_alloc | apply Kd.R_drewN | apply Kd.R_drew)); exact Kd.R_mono HO938.out (fun _ hk => ⟨hk.1.1.2, ⟨hk.1.2, hk.2⟩⟩)) : p := h
theorem zai43 {p : Prop} (h : p := by (with_reducible repeat (first | apply Kd.R_alloc | apply Kd.R_drewN | apply Kd.R_drew)); exact Kd.R_mono HO932.out (fun _ hk => ⟨hk.1.2, ⟨hk.2, hk.1.1.2⟩⟩)) : p := h
theorem zai44 {p : Prop} (h : p := by repeat (first | exact (Kd.R_reads' HO_11.out).2.2 | (with_reducible refine Kd.C_alloc ?_ _) | (with_reducible refine Kd.C_drewN ?_ _) | (with_reducible refine Kd.C_drew ?_))) : p := h
theorem zai45 {p : Prop} (h : p := by repeat (first | exact (Kd.R_reads' HO980.out).2.2 | (with_reducible refine Kd.C_alloc ?_ _) | (with_reducible refine Kd.C_drewN ?_ _) | (with_reducible refine Kd.C_drew ?_))) : p := h
theorem zai46 {p : Prop} (h : p := by repeat (first | exact (Kd.R_reads' HO958.out).2.2 | (with_reducible refine Kd.C_alloc ?_ _) | (with_reducible refine Kd.C_drewN ?_ _) | (with_reducible refine Kd.C_drew ?_))) : p := h
theorem zai47 {p : Prop} (h : p := by repeat (first | exact (Kd.R_reads' HO947.out).2.2 | (with_reducible refine Kd.C_alloc ?_ _) | (with_reducible refine Kd.C_drewN ?_ _) | (with_reducible refine Kd.C_drew ?_))) : p := h
theorem zai48 {p : Prop} (h : p := by repeat (first | exact (Kd.R_reads' HO932.out).2.2 | (with_reducible refine Kd.C_alloc ?_ _) | (with_reducible refine Kd.C_drewN ?_ _) | (with_reducible refine Kd.C_drew ?_))) : p := h
theorem zai49 {p : Prop} (h : p := by (try simp only [hl940002_61]); (with_reducible repeat (first | refine blk_drewN ?_ _ | refine blk_drew ?_ | refine blk_alloc ?_ _)); exact BK939.out) : p := h
theorem zai50 {p : Prop} (h : p := by (try simp only [hl940002_61]); (with_reducible repeat (first | refine blk_drewN ?_ _ | refine blk_drew ?_ | refine blk_alloc ?_ _)); exact BK918.out) : p := h
theorem zai51 {p : Prop} (h : p := by (try simp only [hl940002_61]); (with_reducible repeat (first | refine blk_drewN ?_ _ | refine blk_drew ?_ | refine blk_alloc ?_ _)); exact BK917.out) : p := h
theorem zai52 {p : Prop} (h : p := by rw [hg]; exact Nat.ne_of_lt (blk_lt (g := gb917) (o := .cells #[.int .i64 a0_0, .int .i64 a0_1, .slice A0_2 l0_2.length c0_2] 24 (0, 0)) zai2)) : p := h
theorem zai53 {p : Prop} (h : p := by rw [hg]; exact Nat.ne_of_gt (blk_lt (g := gb917) (o := .cells #[.int .i64 a0_0, .int .i64 a0_1, .slice A0_2 l0_2.length c0_2] 24 (0, 0)) zai2)) : p := h
theorem zai54 {p : Prop} (h : p := by rw [hg]; exact (below_size zai15)) : p := h
theorem zai55 {p : Prop} (h : p := by rw [hg]; exact (below_size zai11)) : p := h
/-! ### laws_FnExactWalkOfNumbers: function 9 -/
mutual
def laws_FnExactWalkOfNumbers.j0 : Nat → List Int → List Int → Bool → List Int → List Int → Bool → Bool → Int → Int → List Int → Int → Int → Int → Int → List Int → Option (Bool)
 | 0, _, _, _, _, _, _, _, _, _, _, _, _, _, _, _ => none
 | k + 1, x2, x8, x9, x11, x12, x13, x57, x918000, x918001, x918002, x919000, x919001, x940000, x940001, x940002 => if x57 = true then (some false) else ((laws_toBoard.f k x918000 x918001 x918002).bind fun bt950 => ((laws_eqBoard.f k x940000 x940001 x940002 bt950.1 bt950.2.1 bt950.2.2).bind fun t955 => (if t955 = true then ((laws_toIntS.f k x2).bind fun t956 => ((laws_eqIntS.f k x11 t956).bind fun t959 => (if t959 = true then ((laws_markBoard.f k x940000 x940001 x940002 1).bind fun bt960 => ((laws_markIntS.f k x11 bt960.1).bind fun bt962 => (if bt962.1 < 0 then (laws_FnExactWalkOfNumbers.j1 k x2 x8 x9 x12 true x918000 x918001 x918002 x919000 x919001) else ((laws_eqIntS.f k x12 x8).bind fun t964 => (if t964 = true then (laws_FnExactWalkOfNumbers.j1 k x2 x8 x9 x12 (x13 != x9) x918000 x918001 x918002 x919000 x919001) else (laws_FnExactWalkOfNumbers.j1 k x2 x8 x9 x12 true x918000 x918001 x918002 x919000 x919001)))))) else (some false)))) else (some false))))
def laws_FnExactWalkOfNumbers.j1 : Nat → List Int → List Int → Bool → List Int → Bool → Int → Int → List Int → Int → Int → Option (Bool)
 | 0, _, _, _, _, _, _, _, _, _, _ => none
 | k + 1, x2, x8, x9, x12, x86, x918000, x918001, x918002, x919000, x919001 => if x86 = true then (some false) else ((laws_markIntS.f k x12 1).bind fun bt965 => ((laws_heldIntS.f k bt965.2 1).bind fun t967 => (if t967 < 0 then (some false) else (if t967 = bt965.1 then ((laws_toBoard.f k x918000 x918001 x918002).bind fun bt968 => ((laws_toLeaper.f x919000 x919001).bind fun bt973 => ((laws_toIntS.f k x2).bind fun t975 => ((impl_WalkOfNumbers.f k bt968.1 bt968.2.1 bt968.2.2 bt973.1 bt973.2 t975).bind fun bt978 => ((laws_eqIntS.f k bt978.1 x8).bind fun t982 => (if t982 = true then (laws_FnExactWalkOfNumbers.j2 k bt965.2 bt965.1 (bt978.2 != x9)) else (laws_FnExactWalkOfNumbers.j2 k bt965.2 bt965.1 true))))))) else (some false)))))
def laws_FnExactWalkOfNumbers.j2 : Nat → List Int → Int → Bool → Option (Bool)
 | 0, _, _, _ => none
 | k + 1, x12, x15, x116 => if x116 = true then (some false) else ((laws_heldIntS.f k x12 1).bind fun t983 => (if t983 < 0 then (some false) else (if t983 = x15 then (some true) else (some false))))
end
def laws_FnExactWalkOfNumbers.f (k : Nat) (a0_0 : Int) (a0_1 : Int) (l0_2 : List Int) (a1_0 : Int) (a1_1 : Int) (l2 : List Int) : Option (Bool) := if (l2.length : Int) > 1048576 then (some true) else ((laws_szBoard.f a0_0 a0_1 l0_2 1048576).bind fun t919 => (if t919 < 0 then (some true) else ((laws_toBoard.f k a0_0 a0_1 l0_2).bind fun bt920 => ((laws_toLeaper.f a1_0 a1_1).bind fun bt925 => ((laws_toIntS.f k l2).bind fun t927 => ((spec_WalkOfNumbers.f k bt920.1 bt920.2.1 bt920.2.2 bt925.1 bt925.2 t927).bind fun bt930 => ((laws_toBoard.f k a0_0 a0_1 l0_2).bind fun bt934 => ((laws_toIntS.f k l2).bind fun t940 => ((laws_toLeaper.f a1_0 a1_1).bind fun bt943 => ((impl_WalkOfNumbers.f k bt934.1 bt934.2.1 bt934.2.2 bt943.1 bt943.2 t940).bind fun bt945 => ((laws_eqIntS.f k bt945.1 bt930.1).bind fun t949 => (if t949 = true then (laws_FnExactWalkOfNumbers.j0 k l2 bt930.1 bt930.2 t940 bt945.1 bt945.2 (bt945.2 != bt930.2) a0_0 a0_1 l0_2 a1_0 a1_1 bt934.1 bt934.2.1 bt934.2.2) else (laws_FnExactWalkOfNumbers.j0 k l2 bt930.1 bt930.2 t940 bt945.1 bt945.2 true a0_0 a0_1 l0_2 a1_0 a1_1 bt934.1 bt934.2.1 bt934.2.2)))))))))))))
def laws_FnExactWalkOfNumbers.T7 : Bool × List (List Nat × List Nat) := (true, [([], []), ([0], [0]), ([], []), ([2, 1], [2]), ([], []), ([4, 3], [4]), ([1, 3, 5, 5], [1, 3, 5]), ([6], [6]), ([7], [7]), ([7], [7]), ([8, 6, 0, 1, 2, 3, 4, 5, 6, 7, 8], [8]), ([9, 10, 0, 1, 2, 3, 4, 5, 6, 7, 8, 9, 10], [9])])
def laws_FnExactWalkOfNumbers.B7 : List Nat := [0, 1, 0, 7, 0, 31, 63, 127, 255, 255, 511, 2047]
theorem laws_FnExactWalkOfNumbers.tab7 : rtab .any (opsOf Try.f9 7) = laws_FnExactWalkOfNumbers.T7 := by kernel_rfl
theorem laws_FnExactWalkOfNumbers.bits7 : waitsOk laws_FnExactWalkOfNumbers.T7.2 laws_FnExactWalkOfNumbers.B7 = true := by kernel_rfl
def laws_FnExactWalkOfNumbers.T10 : Bool × List (List Nat × List Nat) := (true, [([], []), ([], []), ([1], [1]), ([], []), ([0, 2, 3, 2], [0, 2, 3]), ([4], [4]), ([5], [5]), ([5], [5]), ([6, 4, 0, 1, 2, 3, 4, 5, 6], [6]), ([7, 8, 0, 1, 2, 3, 4, 5, 6, 7, 8], [7])])
def laws_FnExactWalkOfNumbers.B10 : List Nat := [0, 0, 2, 0, 15, 31, 63, 63, 127, 511]
theorem laws_FnExactWalkOfNumbers.tab10 : rtab .any (opsOf Try.f9 10) = laws_FnExactWalkOfNumbers.T10 := by kernel_rfl
theorem laws_FnExactWalkOfNumbers.bits10 : waitsOk laws_FnExactWalkOfNumbers.T10.2 laws_FnExactWalkOfNumbers.B10 = true := by kernel_rfl
def laws_FnExactWalkOfNumbers.T30 : Bool × List (List Nat × List Nat) := (true, [([], []), ([0], [0]), ([], []), ([2, 1], [2]), ([], []), ([4, 3], [4]), ([1, 3, 5, 5], [1, 3, 5]), ([6], [6]), ([7], [7]), ([7], [7]), ([8, 6, 0, 1, 2, 3, 4, 5, 6, 7, 8], [8]), ([9, 10, 0, 1, 2, 3, 4, 5, 6, 7, 8, 9, 10], [9])])
def laws_FnExactWalkOfNumbers.B30 : List Nat := [0, 1, 0, 7, 0, 31, 63, 127, 255, 255, 511, 2047]
theorem laws_FnExactWalkOfNumbers.tab30 : rtab .any (opsOf Try.f9 30) = laws_FnExactWalkOfNumbers.T30 := by kernel_rfl
theorem laws_FnExactWalkOfNumbers.bits30 : waitsOk laws_FnExactWalkOfNumbers.T30.2 laws_FnExactWalkOfNumbers.B30 = true := by kernel_rfl
set_option maxHeartbeats 8000000 in
set_option maxRecDepth 100000 in
theorem laws_FnExactWalkOfNumbers.calls (k : Nat) (a0_0 : Int) (a0_1 : Int) (A0_2 : Option Addr) (c0_2 : Nat) (l0_2 : List Int) (a1_0 : Int) (a1_1 : Int) (A2 : Option Addr) (c2 : Nat) (l2 : List Int) (r : Bool) (w : World) (hr0_2 : Kd.C (Kd.int .i64) w A0_2 l0_2.length l0_2) (hc0_2 : l0_2.length ≤ c0_2) (hr2 : Kd.C (Kd.int .i64) w A2 l2.length l2) (hc2 : l2.length ≤ c2) (h : laws_FnExactWalkOfNumbers.f k a0_0 a0_1 l0_2 a1_0 a1_1 l2 = some r) :
  Calls Try.prog 9 #[.agg #[.int .i64 a0_0, .int .i64 a0_1, .slice A0_2 l0_2.length c0_2], .agg #[.int .i64 a1_0, .int .i64 a1_1], .slice A2 l2.length c2] w fun e w' => e = .returned (.bool r) ∧ Below w.heap.size w w' := by
 have hu24 := Try.underlying24
 have hu26 := Try.underlying26
 have hu30 := Try.underlying30
 have HR0_2 := Aside0.mk hr0_2
 have HC0_2 := Aside0.mk hc0_2
 clear hr0_2 hc0_2
 have HR2 := Aside0.mk hr2
 have HC2 := Aside0.mk hc2
 clear hr2 hc2
 have HB := Aside0.mk (Below.refl w.heap.size w)
 have H : (if (l2.length : Int) > 1048576 then (some true) else ((laws_szBoard.f a0_0 a0_1 l0_2 1048576).bind fun t919 => (if t919 < 0 then (some true) else ((laws_toBoard.f k a0_0 a0_1 l0_2).bind fun bt920 => ((laws_toLeaper.f a1_0 a1_1).bind fun bt925 => ((laws_toIntS.f k l2).bind fun t927 => ((spec_WalkOfNumbers.f k bt920.1 bt920.2.1 bt920.2.2 bt925.1 bt925.2 t927).bind fun bt930 => ((laws_toBoard.f k a0_0 a0_1 l0_2).bind fun bt934 => ((laws_toIntS.f k l2).bind fun t940 => ((laws_toLeaper.f a1_0 a1_1).bind fun bt943 => ((impl_WalkOfNumbers.f k bt934.1 bt934.2.1 bt934.2.2 bt943.1 bt943.2 t940).bind fun bt945 => ((laws_eqIntS.f k bt945.1 bt930.1).bind fun t949 => (if t949 = true then (laws_FnExactWalkOfNumbers.j0 k l2 bt930.1 bt930.2 t940 bt945.1 bt945.2 (bt945.2 != bt930.2) a0_0 a0_1 l0_2 a1_0 a1_1 bt934.1 bt934.2.1 bt934.2.2) else (laws_FnExactWalkOfNumbers.j0 k l2 bt930.1 bt930.2 t940 bt945.1 bt945.2 true a0_0 a0_1 l0_2 a1_0 a1_1 bt934.1 bt934.2.1 bt934.2.2)))))))))))))) = some r := h
 clear h
 by_cases c4 : (l2.length : Int) > 1048576
 ·rw [if_pos c4] at H
  have c4b0 : decide (1048576 < (l2.length : Int)) = true := decide_eq_true c4
  have c4b1 : decide (1048576 < l2.length) = true := decide_eq_true (by omega)
  clear c4
  obtain rfl := Option.some.inj H
  go_enter Try.func9, Try.ntmps9
  go_wp2_with (first | ((with_reducible refine gate_dst (N := 3) rfl ?_); refine box_event ?hg (N := 3) ?hd (cs := #[.int .i64 a0_0, .int .i64 a0_1, .slice A0_2 l0_2.length c0_2]) (t := 24) ?hr ?_; (case hd => rfl); (case hg => rfl); (case hr => first | (go_simp; done) | (go_simp; rfl)); intro gb917 hg w5 hbox hb; have n0_ := Aside0.mk (below_step zai15 hb); have n1_ := Aside0.mk (hbox); have n2_ := Aside0.mk ((zai54 : w.heap.size ≤ gb917)); have n3_ := Aside0.mk ((zai54 : w.heap.size ≤ gb917)); clear HB; have HB := n0_; have BK917 := n1_; have GW917 := n2_; have GE917 := n3_; clear n0_ n1_ n2_ n3_; clear hb hbox hg) | ((with_reducible refine gate_dst (N := 4) rfl ?_); refine box_event ?hg (N := 4) ?hd (cs := #[.int .i64 a1_0, .int .i64 a1_1]) (t := 26) ?hr ?_; (case hd => rfl); (case hg => rfl); (case hr => first | (go_simp; done) | (go_simp; rfl)); intro gb918 hg w6 hbox hb; have n0_ := Aside0.mk (blk_below (g := gb917) (o := .cells #[.int .i64 a0_0, .int .i64 a0_1, .slice A0_2 l0_2.length c0_2] 24 (0, 0)) zai2 hb); have n1_ := Aside0.mk (below_step zai11 hb); have n2_ := Aside0.mk (hbox); have n3_ := Aside0.mk ((zai55 : w.heap.size ≤ gb918)); have n4_ := Aside0.mk ((zai55 : w.heap.size ≤ gb918)); have n5_ := Aside0.mk ((zai52 : gb917 ≠ gb918)); have n6_ := Aside0.mk ((zai53 : gb918 ≠ gb917)); clear BK917; clear HB; have BK917 := n0_; have HB := n1_; have BK918 := n2_; have GW918 := n3_; have GE918 := n4_; have NB917_918 := n5_; have NB918_917 := n6_; clear n0_ n1_ n2_ n3_ n4_ n5_ n6_; clear hb hbox hg))
  go_ret
  exact ⟨zai17, zai6⟩
 rw [if_neg c4] at H
 have c4b0 : decide (1048576 < (l2.length : Int)) = false := decide_eq_false c4
 have c4b1 : decide (1048576 < l2.length) = false := decide_eq_false (by omega)
 clear c4
 replace H := Option.bind_eq_some_iff.mp H
 obtain ⟨t919, A70, H⟩ := H
 replace H : (if t919 < 0 then (some true) else ((laws_toBoard.f k a0_0 a0_1 l0_2).bind fun bt920 => ((laws_toLeaper.f a1_0 a1_1).bind fun bt925 => ((laws_toIntS.f k l2).bind fun t927 => ((spec_WalkOfNumbers.f k bt920.1 bt920.2.1 bt920.2.2 bt925.1 bt925.2 t927).bind fun bt930 => ((laws_toBoard.f k a0_0 a0_1 l0_2).bind fun bt934 => ((laws_toIntS.f k l2).bind fun t940 => ((laws_toLeaper.f a1_0 a1_1).bind fun bt943 => ((impl_WalkOfNumbers.f k bt934.1 bt934.2.1 bt934.2.2 bt943.1 bt943.2 t940).bind fun bt945 => ((laws_eqIntS.f k bt945.1 bt930.1).bind fun t949 => (if t949 = true then (laws_FnExactWalkOfNumbers.j0 k l2 bt930.1 bt930.2 t940 bt945.1 bt945.2 (bt945.2 != bt930.2) a0_0 a0_1 l0_2 a1_0 a1_1 bt934.1 bt934.2.1 bt934.2.2) else (laws_FnExactWalkOfNumbers.j0 k l2 bt930.1 bt930.2 t940 bt945.1 bt945.2 true a0_0 a0_1 l0_2 a1_0 a1_1 bt934.1 bt934.2.1 bt934.2.2)))))))))))) = some r := H
 have A7 := Aside0.mk A70
 clear A70
 by_cases c8 : t919 < 0
 ·rw [if_pos c8] at H
  have c8b0 : decide (t919 < 0) = true := decide_eq_true c8
  clear c8
  obtain rfl := Option.some.inj H
  go_enter Try.func9, Try.ntmps9
  go_wp2_with (first | ((with_reducible refine gate_dst (N := 3) rfl ?_); refine box_event ?hg (N := 3) ?hd (cs := #[.int .i64 a0_0, .int .i64 a0_1, .slice A0_2 l0_2.length c0_2]) (t := 24) ?hr ?_; (case hd => rfl); (case hg => rfl); (case hr => first | (go_simp; done) | (go_simp; rfl)); intro gb917 hg w9 hbox hb; have n0_ := Aside0.mk (below_step zai15 hb); have n1_ := Aside0.mk (hbox); have n2_ := Aside0.mk ((zai54 : w.heap.size ≤ gb917)); have n3_ := Aside0.mk ((zai54 : w.heap.size ≤ gb917)); clear HB; have HB := n0_; have BK917 := n1_; have GW917 := n2_; have GE917 := n3_; clear n0_ n1_ n2_ n3_; clear hb hbox hg) | ((with_reducible refine gate_dst (N := 4) rfl ?_); refine box_event ?hg (N := 4) ?hd (cs := #[.int .i64 a1_0, .int .i64 a1_1]) (t := 26) ?hr ?_; (case hd => rfl); (case hg => rfl); (case hr => first | (go_simp; done) | (go_simp; rfl)); intro gb918 hg w10 hbox hb; have n0_ := Aside0.mk (blk_below (g := gb917) (o := .cells #[.int .i64 a0_0, .int .i64 a0_1, .slice A0_2 l0_2.length c0_2] 24 (0, 0)) zai2 hb); have n1_ := Aside0.mk (below_step zai11 hb); have n2_ := Aside0.mk (hbox); have n3_ := Aside0.mk ((zai55 : w.heap.size ≤ gb918)); have n4_ := Aside0.mk ((zai55 : w.heap.size ≤ gb918)); have n5_ := Aside0.mk ((zai52 : gb917 ≠ gb918)); have n6_ := Aside0.mk ((zai53 : gb918 ≠ gb917)); clear BK917; clear HB; have BK917 := n0_; have HB := n1_; have BK918 := n2_; have GW918 := n3_; have GE918 := n4_; have NB917_918 := n5_; have NB918_917 := n6_; clear n0_ n1_ n2_ n3_ n4_ n5_ n6_; clear hb hbox hg; have hnb11 := NB917_918.out; have hnc11 := NB918_917.out; have hcz12_0 : w10.cell? ⟨gb917, 0, none⟩ = some (.int .i64 a0_0) := (blk_cell BK917.out 0).trans rfl; have hcz12_1 : w10.cell? ⟨gb917, 1, none⟩ = some (.int .i64 a0_1) := (blk_cell BK917.out 1).trans rfl; have hcz12_2 : w10.cell? ⟨gb917, 2, none⟩ = some (.slice A0_2 l0_2.length c0_2) := (blk_cell BK917.out 2).trans rfl; have hfz12_0 := blk_frozen BK917.out 0; have hfz12_1 := blk_frozen BK917.out 1; have hfz12_2 := blk_frozen BK917.out 2) | ((with_reducible refine gate_callee (f := 15) rfl ?_); refine goesL_ (some 24) rfl rfl Try.func15 (by kernel_rfl) rfl #[.agg #[.int .i64 a0_0, .int .i64 a0_1, .slice A0_2 l0_2.length c0_2], .int .i64 1048576] rfl zai3 ?_; (with_reducible refine (laws_szBoard.calls a0_0 a0_1 _ _ l0_2 1048576 t919 _ ?side1 ?side2 A7.out).mono ?_); (case side1 => exact zai13); (case side2 => exact HC0_2.out); rintro e w13 ⟨rfl, hb⟩; refine ⟨_, rfl, ?_⟩; have n0_ := Aside0.mk (blk_below (g := gb917) (o := .cells #[.int .i64 a0_0, .int .i64 a0_1, .slice A0_2 l0_2.length c0_2] 24 (0, 0)) zai2 hb); have n1_ := Aside0.mk (blk_below (g := gb918) (o := .cells #[.int .i64 a1_0, .int .i64 a1_1] 26 (0, 0)) zai4 hb); have n2_ := Aside0.mk (below_step zai6 hb); clear BK917; clear BK918; clear HB; have BK917 := n0_; have BK918 := n1_; have HB := n2_; clear n0_ n1_ n2_; (try clear hb); (try clear hb2); (try clear hk); (try clear hi); (try clear hna_); (try clear hnb_)))
  go_ret
  exact ⟨zai17, zai6⟩
 rw [if_neg c8] at H
 have c8b0 : decide (t919 < 0) = false := decide_eq_false c8
 clear c8
 replace H := Option.bind_eq_some_iff.mp H
 obtain ⟨⟨t920, t921, t922⟩, A140, H⟩ := H
 replace H : ((laws_toLeaper.f a1_0 a1_1).bind fun bt925 => ((laws_toIntS.f k l2).bind fun t927 => ((spec_WalkOfNumbers.f k t920 t921 t922 bt925.1 bt925.2 t927).bind fun bt930 => ((laws_toBoard.f k a0_0 a0_1 l0_2).bind fun bt934 => ((laws_toIntS.f k l2).bind fun t940 => ((laws_toLeaper.f a1_0 a1_1).bind fun bt943 => ((impl_WalkOfNumbers.f k bt934.1 bt934.2.1 bt934.2.2 bt943.1 bt943.2 t940).bind fun bt945 => ((laws_eqIntS.f k bt945.1 bt930.1).bind fun t949 => (if t949 = true then (laws_FnExactWalkOfNumbers.j0 k l2 bt930.1 bt930.2 t940 bt945.1 bt945.2 (bt945.2 != bt930.2) a0_0 a0_1 l0_2 a1_0 a1_1 bt934.1 bt934.2.1 bt934.2.2) else (laws_FnExactWalkOfNumbers.j0 k l2 bt930.1 bt930.2 t940 bt945.1 bt945.2 true a0_0 a0_1 l0_2 a1_0 a1_1 bt934.1 bt934.2.1 bt934.2.2)))))))))) = some r := H
 have A14 := Aside0.mk A140
 clear A140
 replace H := Option.bind_eq_some_iff.mp H
 obtain ⟨⟨t925, t926⟩, A150, H⟩ := H
 replace H : ((laws_toIntS.f k l2).bind fun t927 => ((spec_WalkOfNumbers.f k t920 t921 t922 t925 t926 t927).bind fun bt930 => ((laws_toBoard.f k a0_0 a0_1 l0_2).bind fun bt934 => ((laws_toIntS.f k l2).bind fun t940 => ((laws_toLeaper.f a1_0 a1_1).bind fun bt943 => ((impl_WalkOfNumbers.f k bt934.1 bt934.2.1 bt934.2.2 bt943.1 bt943.2 t940).bind fun bt945 => ((laws_eqIntS.f k bt945.1 bt930.1).bind fun t949 => (if t949 = true then (laws_FnExactWalkOfNumbers.j0 k l2 bt930.1 bt930.2 t940 bt945.1 bt945.2 (bt945.2 != bt930.2) a0_0 a0_1 l0_2 a1_0 a1_1 bt934.1 bt934.2.1 bt934.2.2) else (laws_FnExactWalkOfNumbers.j0 k l2 bt930.1 bt930.2 t940 bt945.1 bt945.2 true a0_0 a0_1 l0_2 a1_0 a1_1 bt934.1 bt934.2.1 bt934.2.2))))))))) = some r := H
 have A15 := Aside0.mk A150
 clear A150
 replace H := Option.bind_eq_some_iff.mp H
 obtain ⟨t927, A160, H⟩ := H
 replace H : ((spec_WalkOfNumbers.f k t920 t921 t922 t925 t926 t927).bind fun bt930 => ((laws_toBoard.f k a0_0 a0_1 l0_2).bind fun bt934 => ((laws_toIntS.f k l2).bind fun t940 => ((laws_toLeaper.f a1_0 a1_1).bind fun bt943 => ((impl_WalkOfNumbers.f k bt934.1 bt934.2.1 bt934.2.2 bt943.1 bt943.2 t940).bind fun bt945 => ((laws_eqIntS.f k bt945.1 bt930.1).bind fun t949 => (if t949 = true then (laws_FnExactWalkOfNumbers.j0 k l2 bt930.1 bt930.2 t940 bt945.1 bt945.2 (bt945.2 != bt930.2) a0_0 a0_1 l0_2 a1_0 a1_1 bt934.1 bt934.2.1 bt934.2.2) else (laws_FnExactWalkOfNumbers.j0 k l2 bt930.1 bt930.2 t940 bt945.1 bt945.2 true a0_0 a0_1 l0_2 a1_0 a1_1 bt934.1 bt934.2.1 bt934.2.2)))))))) = some r := H
 have A16 := Aside0.mk A160
 clear A160
 replace H := Option.bind_eq_some_iff.mp H
 obtain ⟨⟨t930, t933⟩, A170, H⟩ := H
 replace H : ((laws_toBoard.f k a0_0 a0_1 l0_2).bind fun bt934 => ((laws_toIntS.f k l2).bind fun t940 => ((laws_toLeaper.f a1_0 a1_1).bind fun bt943 => ((impl_WalkOfNumbers.f k bt934.1 bt934.2.1 bt934.2.2 bt943.1 bt943.2 t940).bind fun bt945 => ((laws_eqIntS.f k bt945.1 t930).bind fun t949 => (if t949 = true then (laws_FnExactWalkOfNumbers.j0 k l2 t930 t933 t940 bt945.1 bt945.2 (bt945.2 != t933) a0_0 a0_1 l0_2 a1_0 a1_1 bt934.1 bt934.2.1 bt934.2.2) else (laws_FnExactWalkOfNumbers.j0 k l2 t930 t933 t940 bt945.1 bt945.2 true a0_0 a0_1 l0_2 a1_0 a1_1 bt934.1 bt934.2.1 bt934.2.2))))))) = some r := H
 have A17 := Aside0.mk A170
 clear A170
 replace H := Option.bind_eq_some_iff.mp H
 obtain ⟨⟨t934, t935, t936⟩, A180, H⟩ := H
 replace H : ((laws_toIntS.f k l2).bind fun t940 => ((laws_toLeaper.f a1_0 a1_1).bind fun bt943 => ((impl_WalkOfNumbers.f k t934 t935 t936 bt943.1 bt943.2 t940).bind fun bt945 => ((laws_eqIntS.f k bt945.1 t930).bind fun t949 => (if t949 = true then (laws_FnExactWalkOfNumbers.j0 k l2 t930 t933 t940 bt945.1 bt945.2 (bt945.2 != t933) a0_0 a0_1 l0_2 a1_0 a1_1 t934 t935 t936) else (laws_FnExactWalkOfNumbers.j0 k l2 t930 t933 t940 bt945.1 bt945.2 true a0_0 a0_1 l0_2 a1_0 a1_1 t934 t935 t936)))))) = some r := H
 have A18 := Aside0.mk A180
 clear A180
 replace H := Option.bind_eq_some_iff.mp H
 obtain ⟨t940, A190, H⟩ := H
 replace H : ((laws_toLeaper.f a1_0 a1_1).bind fun bt943 => ((impl_WalkOfNumbers.f k t934 t935 t936 bt943.1 bt943.2 t940).bind fun bt945 => ((laws_eqIntS.f k bt945.1 t930).bind fun t949 => (if t949 = true then (laws_FnExactWalkOfNumbers.j0 k l2 t930 t933 t940 bt945.1 bt945.2 (bt945.2 != t933) a0_0 a0_1 l0_2 a1_0 a1_1 t934 t935 t936) else (laws_FnExactWalkOfNumbers.j0 k l2 t930 t933 t940 bt945.1 bt945.2 true a0_0 a0_1 l0_2 a1_0 a1_1 t934 t935 t936))))) = some r := H
 have A19 := Aside0.mk A190
 clear A190
 replace H := Option.bind_eq_some_iff.mp H
 obtain ⟨⟨t943, t944⟩, A200, H⟩ := H
 replace H : ((impl_WalkOfNumbers.f k t934 t935 t936 t943 t944 t940).bind fun bt945 => ((laws_eqIntS.f k bt945.1 t930).bind fun t949 => (if t949 = true then (laws_FnExactWalkOfNumbers.j0 k l2 t930 t933 t940 bt945.1 bt945.2 (bt945.2 != t933) a0_0 a0_1 l0_2 a1_0 a1_1 t934 t935 t936) else (laws_FnExactWalkOfNumbers.j0 k l2 t930 t933 t940 bt945.1 bt945.2 true a0_0 a0_1 l0_2 a1_0 a1_1 t934 t935 t936)))) = some r := H
 have A20 := Aside0.mk A200
 clear A200
 replace H := Option.bind_eq_some_iff.mp H
 obtain ⟨⟨t945, t948⟩, A210, H⟩ := H
 replace H : ((laws_eqIntS.f k t945 t930).bind fun t949 => (if t949 = true then (laws_FnExactWalkOfNumbers.j0 k l2 t930 t933 t940 t945 t948 (t948 != t933) a0_0 a0_1 l0_2 a1_0 a1_1 t934 t935 t936) else (laws_FnExactWalkOfNumbers.j0 k l2 t930 t933 t940 t945 t948 true a0_0 a0_1 l0_2 a1_0 a1_1 t934 t935 t936))) = some r := H
 have A21 := Aside0.mk A210
 clear A210
 have HC22 := Aside0.mk H
 clear H
 go_enter Try.func9, Try.ntmps9
 try go_wp2_with (first | ((with_reducible refine gate_dst (N := 3) rfl ?_); refine box_event ?hg (N := 3) ?hd (cs := #[.int .i64 a0_0, .int .i64 a0_1, .slice A0_2 l0_2.length c0_2]) (t := 24) ?hr ?_; (case hd => rfl); (case hg => rfl); (case hr => first | (go_simp; done) | (go_simp; rfl)); intro gb917 hg w23 hbox hb; have n0_ := Aside0.mk (below_step zai15 hb); have n1_ := Aside0.mk (hbox); have n2_ := Aside0.mk ((zai54 : w.heap.size ≤ gb917)); have n3_ := Aside0.mk ((zai54 : w.heap.size ≤ gb917)); clear HB; have HB := n0_; have BK917 := n1_; have GW917 := n2_; have GE917 := n3_; clear n0_ n1_ n2_ n3_; clear hb hbox hg) | ((with_reducible refine gate_dst (N := 4) rfl ?_); refine box_event ?hg (N := 4) ?hd (cs := #[.int .i64 a1_0, .int .i64 a1_1]) (t := 26) ?hr ?_; (case hd => rfl); (case hg => rfl); (case hr => first | (go_simp; done) | (go_simp; rfl)); intro gb918 hg w24 hbox hb; have n0_ := Aside0.mk (blk_below (g := gb917) (o := .cells #[.int .i64 a0_0, .int .i64 a0_1, .slice A0_2 l0_2.length c0_2] 24 (0, 0)) zai2 hb); have n1_ := Aside0.mk (below_step zai11 hb); have n2_ := Aside0.mk (hbox); have n3_ := Aside0.mk ((zai55 : w.heap.size ≤ gb918)); have n4_ := Aside0.mk ((zai55 : w.heap.size ≤ gb918)); have n5_ := Aside0.mk ((zai52 : gb917 ≠ gb918)); have n6_ := Aside0.mk ((zai53 : gb918 ≠ gb917)); clear BK917; clear HB; have BK917 := n0_; have HB := n1_; have BK918 := n2_; have GW918 := n3_; have GE918 := n4_; have NB917_918 := n5_; have NB918_917 := n6_; clear n0_ n1_ n2_ n3_ n4_ n5_ n6_; clear hb hbox hg; have hnb25 := NB917_918.out; have hnc25 := NB918_917.out; have hcz26_0 : w24.cell? ⟨gb917, 0, none⟩ = some (.int .i64 a0_0) := (blk_cell BK917.out 0).trans rfl; have hcz26_1 : w24.cell? ⟨gb917, 1, none⟩ = some (.int .i64 a0_1) := (blk_cell BK917.out 1).trans rfl; have hcz26_2 : w24.cell? ⟨gb917, 2, none⟩ = some (.slice A0_2 l0_2.length c0_2) := (blk_cell BK917.out 2).trans rfl; have hfz26_0 := blk_frozen BK917.out 0; have hfz26_1 := blk_frozen BK917.out 1; have hfz26_2 := blk_frozen BK917.out 2) | ((with_reducible refine gate_callee (f := 15) rfl ?_); refine goesL_ (some 24) rfl rfl Try.func15 (by kernel_rfl) rfl #[.agg #[.int .i64 a0_0, .int .i64 a0_1, .slice A0_2 l0_2.length c0_2], .int .i64 1048576] rfl zai3 ?_; (with_reducible refine (laws_szBoard.calls a0_0 a0_1 _ _ l0_2 1048576 t919 _ ?side1 ?side2 A7.out).mono ?_); (case side1 => exact zai13); (case side2 => exact HC0_2.out); rintro e w27 ⟨rfl, hb⟩; refine ⟨_, rfl, ?_⟩; have n0_ := Aside0.mk (blk_below (g := gb917) (o := .cells #[.int .i64 a0_0, .int .i64 a0_1, .slice A0_2 l0_2.length c0_2] 24 (0, 0)) zai2 hb); have n1_ := Aside0.mk (blk_below (g := gb918) (o := .cells #[.int .i64 a1_0, .int .i64 a1_1] 26 (0, 0)) zai4 hb); have n2_ := Aside0.mk (below_step zai6 hb); clear BK917; clear BK918; clear HB; have BK917 := n0_; have BK918 := n1_; have HB := n2_; clear n0_ n1_ n2_; (try clear hb); (try clear hb2); (try clear hk); (try clear hi); (try clear hna_); (try clear hnb_)))
 have n0_ := Aside0.mk (blk_drew BK917.out)
 have n1_ := Aside0.mk (blk_drew BK918.out)
 have n2_ := Aside0.mk (below_drew1 HB.out)
 clear BK917
 clear BK918
 clear HB
 have BK917 := n0_
 have BK918 := n1_
 have HB := n2_
 clear n0_ n1_ n2_
 refine start_ (n := 12) (S := fun w' => w'.cell? ⟨gb917, 0, none⟩ = some (.int .i64 a0_0) ∧ w'.cell? ⟨gb917, 1, none⟩ = some (.int .i64 a0_1) ∧ w'.cell? ⟨gb917, 2, none⟩ = some (.slice A0_2 l0_2.length c0_2) ∧ w'.cell? ⟨gb918, 0, none⟩ = some (.int .i64 a1_0) ∧ w'.cell? ⟨gb918, 1, none⟩ = some (.int .i64 a1_1)) (ds := []) #[false, false, false, false, false, false, false, false, false, false, false, false] (by kernel_rfl) rfl rfl ⟨(blk_cell BK917.out 0).trans rfl, (blk_cell BK917.out 1).trans rfl, (blk_cell BK917.out 2).trans rfl, (blk_cell BK918.out 0).trans rfl, (blk_cell BK918.out 1).trans rfl⟩ (fun hHeld => ?_); refine with_tabW laws_FnExactWalkOfNumbers.tab7 laws_FnExactWalkOfNumbers.bits7 (fun HT_ HW_ => ?_)
 generalize w27.drew = w28 at BK917 BK918 HB hHeld ⊢
 refine pure_ (i := 4) (N := some 32) (v := ?_) (a' := ?_) #[false, false, false, false, true, false, false, false, false, false, false, false] rfl rfl (any_of HT_.out (by kernel_rfl)) (fun _ _ _ h => h) (Or.inl ⟨by rfl, ?_⟩) ?_ ?_
 rotate_left
 ·intro w'
  go_simp
  with_reducible rfl
 rotate_left
 ·simp only [Act.put, List.setIfInBounds_toArray, List.set_cons_zero, List.set_cons_succ, i64_w, i32_w]
  rfl
 refine take_ (i := 0) (N := some 28) (v := ?_) (a' := ?_) #[true, false, false, false, true, false, false, false, false, false, false, false] rfl rfl (take_ofW HT_.out HW_.out (by kernel_rfl)) (fun _ _ _ h => h) (Or.inl ⟨by rfl, ?_⟩) hHeld ?_ ?_
 rotate_left
 ·rintro w' ⟨s0, s1, s2, s3, s4⟩
  go_simp
  with_reducible rfl
 rotate_left
 ·simp only [Act.put, List.setIfInBounds_toArray, List.set_cons_zero, List.set_cons_succ, i64_w, i32_w]
  rfl
 refine take_ (i := 2) (N := some 30) (v := ?_) (a' := ?_) #[true, false, true, false, true, false, false, false, false, false, false, false] rfl rfl (take_ofW HT_.out HW_.out (by kernel_rfl)) (fun _ _ _ h => h) (Or.inl ⟨by rfl, ?_⟩) hHeld ?_ ?_
 rotate_left
 ·rintro w' ⟨s0, s1, s2, s3, s4⟩
  go_simp
  with_reducible rfl
 rotate_left
 ·simp only [Act.put, List.setIfInBounds_toArray, List.set_cons_zero, List.set_cons_succ, i64_w, i32_w]
  rfl
 refine one_ (i := 1) (N := some 29) #[true, true, true, false, true, false, false, false, false, false, false, false] rfl rfl (one_of HT_.out (by kernel_rfl)) (by decide) (fun K hK => ?_)
 refine goes_ Try.func17 (by kernel_rfl) rfl #[.agg #[.int .i64 a0_0, .int .i64 a0_1, .slice A0_2 l0_2.length c0_2]] (by rfl) rfl rfl zai3 ?_
 with_reducible refine (laws_toBoard.calls k a0_0 a0_1 _ _ l0_2 t920 t921 t922 _ ?side1 ?side2 A14.out).mono ?_
 (case side1 => exact zai13)
 (case side2 => exact HC0_2.out)
 rintro e w29 ⟨v923, rfl, ho0, hb⟩
 refine ⟨_, rfl, ?_⟩
 have n0_ := Aside0.mk (Kd.R_lower ho0 (below_size zai6))
 have n1_ := Aside0.mk (blk_below (g := gb917) (o := .cells #[.int .i64 a0_0, .int .i64 a0_1, .slice A0_2 l0_2.length c0_2] 24 (0, 0)) zai2 hb)
 have n2_ := Aside0.mk (blk_below (g := gb918) (o := .cells #[.int .i64 a1_0, .int .i64 a1_1] 26 (0, 0)) zai4 hb)
 have n3_ := Aside0.mk (below_step zai6 hb)
 clear BK917
 clear BK918
 clear HB
 have HO924 := n0_
 have BK917 := n1_
 have BK918 := n2_
 have HB := n3_
 clear n0_ n1_ n2_ n3_
 (try clear hb)
 (try clear hb2)
 (try clear hk)
 (try clear hi)
 (try clear ho0)
 (try clear hna_)
 (try clear hnb_)
 refine hK.out _ _ ⟨(blk_cell BK917.out 0).trans rfl, (blk_cell BK917.out 1).trans rfl, (blk_cell BK917.out 2).trans rfl, (blk_cell BK918.out 0).trans rfl, (blk_cell BK918.out 1).trans rfl⟩ (fun hHeld => ?_)
 clear hK K
 refine norm_ (a' := ?_) ?_ ?_
 rotate_left
 ·show Act.put _ (some 29) _ = _
  simp only [Act.put, List.setIfInBounds_toArray, List.set_cons_zero, List.set_cons_succ, i64_w, i32_w]
  rfl
 refine one_ (i := 3) (N := some 31) #[true, true, true, true, true, false, false, false, false, false, false, false] rfl rfl (one_of HT_.out (by kernel_rfl)) (by decide) (fun K hK => ?_)
 refine goes_ Try.func18 (by kernel_rfl) rfl #[.agg #[.int .i64 a1_0, .int .i64 a1_1]] (by rfl) rfl rfl zai3 ?_
 with_reducible refine (laws_toLeaper.calls a1_0 a1_1 t925 t926 _ A15.out).mono ?_
 rintro e w30 ⟨rfl, hb⟩
 refine ⟨_, rfl, ?_⟩
 have n0_ := Aside0.mk (Kd.R_below zai16 hb)
 have n1_ := Aside0.mk (blk_below (g := gb917) (o := .cells #[.int .i64 a0_0, .int .i64 a0_1, .slice A0_2 l0_2.length c0_2] 24 (0, 0)) zai2 hb)
 have n2_ := Aside0.mk (blk_below (g := gb918) (o := .cells #[.int .i64 a1_0, .int .i64 a1_1] 26 (0, 0)) zai4 hb)
 have n3_ := Aside0.mk (below_step zai6 hb)
 clear HO924
 clear BK917
 clear BK918
 clear HB
 have HO924 := n0_
 have BK917 := n1_
 have BK918 := n2_
 have HB := n3_
 clear n0_ n1_ n2_ n3_
 (try clear hb)
 (try clear hb2)
 (try clear hk)
 (try clear hi)
 (try clear hna_)
 (try clear hnb_)
 refine hK.out _ _ ⟨(blk_cell BK917.out 0).trans rfl, (blk_cell BK917.out 1).trans rfl, (blk_cell BK917.out 2).trans rfl, (blk_cell BK918.out 0).trans rfl, (blk_cell BK918.out 1).trans rfl⟩ (fun hHeld => ?_)
 clear hK K
 refine norm_ (a' := ?_) ?_ ?_
 rotate_left
 ·show Act.put _ (some 31) _ = _
  simp only [Act.put, List.setIfInBounds_toArray, List.set_cons_zero, List.set_cons_succ, i64_w, i32_w]
  rfl
 refine one_ (i := 5) (N := some 33) #[true, true, true, true, true, true, false, false, false, false, false, false] rfl rfl (one_of HT_.out (by kernel_rfl)) (by decide) (fun K hK => ?_)
 refine goes_ Try.func19 (by kernel_rfl) rfl #[.slice A2 l2.length c2] (by rfl) rfl rfl zai3 ?_
 with_reducible refine (laws_toIntS.calls k _ _ l2 t927 _ ?side1 ?side2 A16.out).mono ?_
 (case side1 => exact zai21)
 (case side2 => exact HC2.out)
 rintro e w31 ⟨v928, rfl, ho0, hb⟩
 refine ⟨_, rfl, ?_⟩
 have n0_ := Aside0.mk (Kd.R_elder' zai16 (Kd.R_base ho0) hb)
 have n1_ := Aside0.mk (Kd.R_lower (Kd.R_new' ho0 (Kd.R_lt zai16)) (below_size zai6))
 have n2_ := Aside0.mk (blk_below (g := gb917) (o := .cells #[.int .i64 a0_0, .int .i64 a0_1, .slice A0_2 l0_2.length c0_2] 24 (0, 0)) zai2 hb)
 have n3_ := Aside0.mk (blk_below (g := gb918) (o := .cells #[.int .i64 a1_0, .int .i64 a1_1] 26 (0, 0)) zai4 hb)
 have n4_ := Aside0.mk (below_step zai6 hb)
 clear HO924
 clear BK917
 clear BK918
 clear HB
 have HO924 := n0_
 have HO929 := n1_
 have BK917 := n2_
 have BK918 := n3_
 have HB := n4_
 clear n0_ n1_ n2_ n3_ n4_
 (try clear hb)
 (try clear hb2)
 (try clear hk)
 (try clear hi)
 (try clear ho0)
 (try clear hna_)
 (try clear hnb_)
 obtain ⟨Ao32, co32, eo32⟩ := Kd.R_slice HO924.out
 (first | subst eo32 | (injection eo32 with f1_ f2_ f3_; have f4_ := f1_.symm; have f5_ := f3_.symm; clear f1_ f2_ f3_; subst f4_; subst f5_))
 obtain ⟨Ao33, co33, eo33⟩ := Kd.R_slice HO929.out
 (first | subst eo33 | (injection eo33 with f1_ f2_ f3_; have f4_ := f1_.symm; have f5_ := f3_.symm; clear f1_ f2_ f3_; subst f4_; subst f5_))
 refine hK.out _ _ ⟨(blk_cell BK917.out 0).trans rfl, (blk_cell BK917.out 1).trans rfl, (blk_cell BK917.out 2).trans rfl, (blk_cell BK918.out 0).trans rfl, (blk_cell BK918.out 1).trans rfl⟩ (fun hHeld => ?_)
 clear hK K
 refine norm_ (a' := ?_) ?_ ?_
 rotate_left
 ·show Act.put _ (some 33) _ = _
  simp only [Act.put, List.setIfInBounds_toArray, List.set_cons_zero, List.set_cons_succ, i64_w, i32_w]
  rfl
 refine one_ (i := 6) (N := some 34) #[true, true, true, true, true, true, true, false, false, false, false, false] rfl rfl (one_of HT_.out (by kernel_rfl)) (by decide) (fun K hK => ?_)
 refine goes_ Try.func36 (by kernel_rfl) rfl #[.agg #[.int .i64 t920, .int .i64 t921, .slice Ao32 t922.length co32], .agg #[.int .i64 t925, .int .i64 t926], .slice Ao33 t927.length co33] (by rfl) rfl rfl zai3 ?_
 with_reducible refine (spec_WalkOfNumbers.calls k t920 t921 _ _ t922 t925 t926 _ _ t927 t930 t933 _ ?side1 ?side2 ?side3 ?side4 A17.out).mono ?_
 (case side1 => repeat (first | exact (Kd.R_reads' HO924.out).2.2 | (with_reducible refine Kd.C_alloc ?_ _) | (with_reducible refine Kd.C_drewN ?_ _) | (with_reducible refine Kd.C_drew ?_)))
 (case side2 => exact (Kd.R_reads' HO924.out).2.1)
 (case side3 => repeat (first | exact (Kd.R_reads' HO929.out).2.2 | (with_reducible refine Kd.C_alloc ?_ _) | (with_reducible refine Kd.C_drewN ?_ _) | (with_reducible refine Kd.C_drew ?_)))
 (case side4 => exact (Kd.R_reads' HO929.out).2.1)
 rintro e w34 ⟨v931, rfl, ho0, hb⟩
 refine ⟨_, rfl, ?_⟩
 have n0_ := Aside0.mk (Kd.R_elder' zai16 (Kd.R_base ho0) hb)
 have n1_ := Aside0.mk (Kd.R_elder' zai18 (Kd.R_base ho0) hb)
 have n2_ := Aside0.mk (Kd.R_lower (Kd.R_new' (Kd.R_new' ho0 (Kd.R_lt zai16)) (Kd.R_lt zai18)) (below_size zai6))
 have n3_ := Aside0.mk (blk_below (g := gb917) (o := .cells #[.int .i64 a0_0, .int .i64 a0_1, .slice A0_2 l0_2.length c0_2] 24 (0, 0)) zai2 hb)
 have n4_ := Aside0.mk (blk_below (g := gb918) (o := .cells #[.int .i64 a1_0, .int .i64 a1_1] 26 (0, 0)) zai4 hb)
 have n5_ := Aside0.mk (below_step zai6 hb)
 clear HO924
 clear HO929
 clear BK917
 clear BK918
 clear HB
 have HO924 := n0_
 have HO929 := n1_
 have HO932 := n2_
 have BK917 := n3_
 have BK918 := n4_
 have HB := n5_
 clear n0_ n1_ n2_ n3_ n4_ n5_
 (try clear hb)
 (try clear hb2)
 (try clear hk)
 (try clear hi)
 (try clear ho0)
 (try clear hna_)
 (try clear hnb_)
 refine hK.out _ _ ⟨(blk_cell BK917.out 0).trans rfl, (blk_cell BK917.out 1).trans rfl, (blk_cell BK917.out 2).trans rfl, (blk_cell BK918.out 0).trans rfl, (blk_cell BK918.out 1).trans rfl⟩ (fun hHeld => ?_)
 clear hK K
 refine norm_ (a' := ?_) ?_ ?_
 rotate_left
 ·show Act.put _ (some 34) _ = _
  simp only [Act.put, List.setIfInBounds_toArray, List.set_cons_zero, List.set_cons_succ, i64_w, i32_w]
  rfl
 refine pure_ (i := 7) (N := some 27) (v := ?_) (a' := ?_) #[true, true, true, true, true, true, true, true, false, false, false, false] rfl rfl (any_of HT_.out (by kernel_rfl)) (fun _ _ _ h => h) (Or.inl ⟨by rfl, ?_⟩) ?_ ?_
 rotate_left
 ·intro w'
  go_simp
  with_reducible rfl
 rotate_left
 ·simp only [Act.put, List.setIfInBounds_toArray, List.set_cons_zero, List.set_cons_succ, i64_w, i32_w]
  rfl
 refine pure_ (i := 8) (N := some 35) (v := ?_) (a' := ?_) #[true, true, true, true, true, true, true, true, true, false, false, false] rfl rfl (any_of HT_.out (by kernel_rfl)) (fun _ _ _ h => h) (Or.inl ⟨by rfl, ?_⟩) ?_ ?_
 rotate_left
 ·intro w'
  go_simp
  with_reducible rfl
 rotate_left
 ·simp only [Act.put, List.setIfInBounds_toArray, List.set_cons_zero, List.set_cons_succ, i64_w, i32_w]
  rfl
 refine pure_ (i := 9) (N := some 36) (v := ?_) (a' := ?_) #[true, true, true, true, true, true, true, true, true, true, false, false] rfl rfl (any_of HT_.out (by kernel_rfl)) (fun _ _ _ h => h) (Or.inl ⟨by rfl, ?_⟩) ?_ ?_
 rotate_left
 ·intro w'
  go_simp
  with_reducible rfl
 rotate_left
 ·simp only [Act.put, List.setIfInBounds_toArray, List.set_cons_zero, List.set_cons_succ, i64_w, i32_w]
  rfl
 refine pure_ (i := 10) (N := some 8) (v := ?_) (a' := ?_) #[true, true, true, true, true, true, true, true, true, true, true, false] rfl rfl (any_of HT_.out (by kernel_rfl)) (fun _ _ _ h => h) (Or.inl ⟨by rfl, ?_⟩) ?_ ?_
 rotate_left
 ·intro w'
  go_simp
  with_reducible rfl
 rotate_left
 ·simp only [Act.put, List.setIfInBounds_toArray, List.set_cons_zero, List.set_cons_succ, i64_w, i32_w]
  rfl
 refine pure_ (i := 11) (N := some 9) (v := ?_) (a' := ?_) #[true, true, true, true, true, true, true, true, true, true, true, true] rfl rfl (any_of HT_.out (by kernel_rfl)) (fun _ _ _ h => h) (Or.inl ⟨by rfl, ?_⟩) ?_ ?_
 rotate_left
 ·intro w'
  go_simp
  with_reducible rfl
 rotate_left
 ·simp only [Act.put, List.setIfInBounds_toArray, List.set_cons_zero, List.set_cons_succ, i64_w, i32_w]
  rfl
 refine done_ (done_of HT_.out (by kernel_rfl)) ?_
 have hcz35_0 : w34.cell? ⟨gb917, 0, none⟩ = some (.int .i64 a0_0) := (blk_cell BK917.out 0).trans rfl
 have hcz35_1 : w34.cell? ⟨gb917, 1, none⟩ = some (.int .i64 a0_1) := (blk_cell BK917.out 1).trans rfl
 have hcz35_2 : w34.cell? ⟨gb917, 2, none⟩ = some (.slice A0_2 l0_2.length c0_2) := (blk_cell BK917.out 2).trans rfl
 have hfz35_0 := blk_frozen BK917.out 0
 have hfz35_1 := blk_frozen BK917.out 1
 have hfz35_2 := blk_frozen BK917.out 2
 try go_wp2_with (first | ((with_reducible refine gate_callee (f := 17) rfl ?_); refine goesL_ (some 38) rfl rfl Try.func17 (by kernel_rfl) rfl #[.agg #[.int .i64 a0_0, .int .i64 a0_1, .slice A0_2 l0_2.length c0_2]] rfl zai3 ?_; (with_reducible refine (laws_toBoard.calls k a0_0 a0_1 _ _ l0_2 t934 t935 t936 _ ?side1 ?side2 A18.out).mono ?_); (case side1 => exact zai13); (case side2 => exact HC0_2.out); rintro e w36 ⟨v937, rfl, ho0, hb⟩; refine ⟨_, rfl, ?_⟩; have n0_ := Aside0.mk (Kd.R_elder' zai16 (Kd.R_base ho0) hb); have n1_ := Aside0.mk (Kd.R_elder' zai18 (Kd.R_base ho0) hb); have n2_ := Aside0.mk (Kd.R_elder' zai20 (Kd.R_base ho0) hb); have n3_ := Aside0.mk (Kd.R_lower (Kd.R_new' (Kd.R_new' (Kd.R_new' ho0 (Kd.R_lt zai16)) (Kd.R_lt zai18)) (Kd.R_lt zai20)) (below_size zai6)); have n4_ := Aside0.mk (blk_below (g := gb917) (o := .cells #[.int .i64 a0_0, .int .i64 a0_1, .slice A0_2 l0_2.length c0_2] 24 (0, 0)) zai2 hb); have n5_ := Aside0.mk (blk_below (g := gb918) (o := .cells #[.int .i64 a1_0, .int .i64 a1_1] 26 (0, 0)) zai4 hb); have n6_ := Aside0.mk (below_step zai6 hb); clear HO924; clear HO929; clear HO932; clear BK917; clear BK918; clear HB; have HO924 := n0_; have HO929 := n1_; have HO932 := n2_; have HO938 := n3_; have BK917 := n4_; have BK918 := n5_; have HB := n6_; clear n0_ n1_ n2_ n3_ n4_ n5_ n6_; (try clear hb); (try clear hb2); (try clear hk); (try clear hi); (try clear ho0); (try clear hna_); (try clear hnb_)) | ((with_reducible refine gate_dst (N := 10) rfl ?_); refine box_event ?hg (N := 10) ?hd (cs := #[.int .i64 0, .int .i64 0, .slice none 0 0]) (t := 30) ?hr ?_; (case hd => rfl); (case hg => rfl); (case hr => first | (go_simp; done) | (go_simp; rfl)); intro gb939 hg w37 hbox hb; have n0_ := Aside0.mk (Kd.R_below zai16 hb); have n1_ := Aside0.mk (Kd.R_below zai18 hb); have n2_ := Aside0.mk (Kd.R_below zai20 hb); have n3_ := Aside0.mk (Kd.R_below zai31 hb); have n4_ := Aside0.mk (blk_below (g := gb917) (o := .cells #[.int .i64 a0_0, .int .i64 a0_1, .slice A0_2 l0_2.length c0_2] 24 (0, 0)) zai2 hb); have n5_ := Aside0.mk (blk_below (g := gb918) (o := .cells #[.int .i64 a1_0, .int .i64 a1_1] 26 (0, 0)) zai4 hb); have n6_ := Aside0.mk (below_step zai6 hb); have n7_ := Aside0.mk (hbox); have n8_ := Aside0.mk ((by rw [hg]; exact (below_size zai6) : w.heap.size ≤ gb939)); have n9_ := Aside0.mk ((by rw [hg]; exact (below_size zai6) : w.heap.size ≤ gb939)); have n10_ := Aside0.mk ((zai52 : gb917 ≠ gb939)); have n11_ := Aside0.mk ((zai53 : gb939 ≠ gb917)); have n12_ := Aside0.mk ((by rw [hg]; exact Nat.ne_of_lt (blk_lt (g := gb918) (o := .cells #[.int .i64 a1_0, .int .i64 a1_1] 26 (0, 0)) zai4) : gb918 ≠ gb939)); have n13_ := Aside0.mk ((by rw [hg]; exact Nat.ne_of_gt (blk_lt (g := gb918) (o := .cells #[.int .i64 a1_0, .int .i64 a1_1] 26 (0, 0)) zai4) : gb939 ≠ gb918)); clear HO924; clear HO929; clear HO932; clear HO938; clear BK917; clear BK918; clear HB; have HO924 := n0_; have HO929 := n1_; have HO932 := n2_; have HO938 := n3_; have BK917 := n4_; have BK918 := n5_; have HB := n6_; have BK939 := n7_; have GW939 := n8_; have GE939 := n9_; have NB917_939 := n10_; have NB939_917 := n11_; have NB918_939 := n12_; have NB939_918 := n13_; clear n0_ n1_ n2_ n3_ n4_ n5_ n6_ n7_ n8_ n9_ n10_ n11_ n12_ n13_; clear hb hbox hg; have hnb38 := NB939_917.out; have hnc38 := NB917_939.out; have hnb39 := NB939_918.out; have hnc39 := NB918_939.out; have hcz40_0 : w37.cell? ⟨gb939, 0, none⟩ = some (.int .i64 0) := (blk_cell BK939.out 0).trans rfl; have hcz40_1 : w37.cell? ⟨gb939, 1, none⟩ = some (.int .i64 0) := (blk_cell BK939.out 1).trans rfl; have hcz40_2 : w37.cell? ⟨gb939, 2, none⟩ = some (.slice none 0 0) := (blk_cell BK939.out 2).trans rfl; have hfz40_0 := blk_frozen BK939.out 0; have hfz40_1 := blk_frozen BK939.out 1; have hfz40_2 := blk_frozen BK939.out 2; obtain ⟨Ao41, co41, eo41⟩ := Kd.R_slice HO938.out; subst eo41) | ((with_reducible refine gate_callee (f := 19) rfl ?_); refine goesL_ (some 40) rfl rfl Try.func19 (by kernel_rfl) rfl #[.slice A2 l2.length c2] rfl zai3 ?_; (with_reducible refine (laws_toIntS.calls k _ _ l2 t940 _ ?side1 ?side2 A19.out).mono ?_); (case side1 => exact Kd.C_below HR2.out zai1); (case side2 => exact HC2.out); rintro e w42 ⟨v941, rfl, ho0, hb⟩; refine ⟨_, rfl, ?_⟩; have n0_ := Aside0.mk (Kd.R_elder' zai27 (Kd.R_base ho0) hb); have n1_ := Aside0.mk (Kd.R_elder' zai26 (Kd.R_base ho0) hb); have n2_ := Aside0.mk (Kd.R_elder' zai25 (Kd.R_base ho0) hb); have n3_ := Aside0.mk (Kd.R_elder' zai24 (Kd.R_base ho0) hb); have n4_ := Aside0.mk (Kd.R_lower (Kd.R_new' (Kd.R_new' (Kd.R_new' (Kd.R_new' ho0 (Kd.R_lt zai27)) (Kd.R_lt zai26)) (Kd.R_lt zai25)) (Kd.R_lt zai24)) (below_size zai1)); have n5_ := Aside0.mk (blk_below (g := gb917) (o := .cells #[.int .i64 a0_0, .int .i64 a0_1, .slice A0_2 l0_2.length c0_2] 24 (0, 0)) (by (with_reducible repeat (first | refine blk_drewN ?_ _ | refine blk_drew ?_ | refine blk_alloc ?_ _)); refine blk_far ?_ NB917_939.out _; (with_reducible repeat (first | refine blk_drewN ?_ _ | refine blk_drew ?_ | refine blk_alloc ?_ _)); refine blk_far ?_ NB917_939.out _; (with_reducible repeat (first | refine blk_drewN ?_ _ | refine blk_drew ?_ | refine blk_alloc ?_ _)); refine blk_far ?_ NB917_939.out _; (with_reducible repeat (first | refine blk_drewN ?_ _ | refine blk_drew ?_ | refine blk_alloc ?_ _)); exact BK917.out) hb); have n6_ := Aside0.mk (blk_below (g := gb918) (o := .cells #[.int .i64 a1_0, .int .i64 a1_1] 26 (0, 0)) (by (with_reducible repeat (first | refine blk_drewN ?_ _ | refine blk_drew ?_ | refine blk_alloc ?_ _)); refine blk_far ?_ NB918_939.out _; (with_reducible repeat (first | refine blk_drewN ?_ _ | refine blk_drew ?_ | refine blk_alloc ?_ _)); refine blk_far ?_ NB918_939.out _; (with_reducible repeat (first | refine blk_drewN ?_ _ | refine blk_drew ?_ | refine blk_alloc ?_ _)); refine blk_far ?_ NB918_939.out _; (with_reducible repeat (first | refine blk_drewN ?_ _ | refine blk_drew ?_ | refine blk_alloc ?_ _)); exact BK918.out) hb); have n7_ := Aside0.mk (blk_below (g := gb939) (o := .cells #[.int .i64 t934, .int .i64 t935, .slice Ao41 t936.length co41] 30 (0, 0)) (by (with_reducible repeat (first | refine blk_drewN ?_ _ | refine blk_drew ?_ | refine blk_alloc ?_ _)); refine blk_put (cs := #[.int .i64 t934, .int .i64 t935, .slice none 0 0]) ?_ 2 _ rfl; (with_reducible repeat (first | refine blk_drewN ?_ _ | refine blk_drew ?_ | refine blk_alloc ?_ _)); refine blk_put (cs := #[.int .i64 t934, .int .i64 0, .slice none 0 0]) ?_ 1 _ rfl; (with_reducible repeat (first | refine blk_drewN ?_ _ | refine blk_drew ?_ | refine blk_alloc ?_ _)); refine blk_put (cs := #[.int .i64 0, .int .i64 0, .slice none 0 0]) ?_ 0 _ rfl; (with_reducible repeat (first | refine blk_drewN ?_ _ | refine blk_drew ?_ | refine blk_alloc ?_ _)); exact BK939.out) hb); have n8_ := Aside0.mk (below_step zai1 hb); clear HO924; clear HO929; clear HO932; clear HO938; clear BK917; clear BK918; clear BK939; clear HB; have HO924 := n0_; have HO929 := n1_; have HO932 := n2_; have HO938 := n3_; have HO942 := n4_; have BK917 := n5_; have BK918 := n6_; have BK939 := n7_; have HB := n8_; clear n0_ n1_ n2_ n3_ n4_ n5_ n6_ n7_ n8_; (try clear hb); (try clear hb2); (try clear hk); (try clear hi); (try clear ho0); (try clear hna_); (try clear hnb_)))
 have n0_ := Aside0.mk (Kd.R_drew HO924.out)
 have n1_ := Aside0.mk (Kd.R_drew HO929.out)
 have n2_ := Aside0.mk (Kd.R_drew HO932.out)
 have n3_ := Aside0.mk (Kd.R_drew HO938.out)
 have n4_ := Aside0.mk (Kd.R_drew HO942.out)
 have n5_ := Aside0.mk (blk_drew BK917.out)
 have n6_ := Aside0.mk (blk_drew BK918.out)
 have n7_ := Aside0.mk (blk_drew BK939.out)
 have n8_ := Aside0.mk (below_drew1 HB.out)
 clear HO924
 clear HO929
 clear HO932
 clear HO938
 clear HO942
 clear BK917
 clear BK918
 clear BK939
 clear HB
 have HO924 := n0_
 have HO929 := n1_
 have HO932 := n2_
 have HO938 := n3_
 have HO942 := n4_
 have BK917 := n5_
 have BK918 := n6_
 have BK939 := n7_
 have HB := n8_
 clear n0_ n1_ n2_ n3_ n4_ n5_ n6_ n7_ n8_
 refine start_ (n := 10) (S := fun w' => w'.cell? ⟨gb939, 0, none⟩ = some (.int .i64 t934) ∧ w'.cell? ⟨gb939, 1, none⟩ = some (.int .i64 t935) ∧ w'.cell? ⟨gb939, 2, none⟩ = some (.slice Ao41 t936.length co41) ∧ w'.cell? ⟨gb918, 0, none⟩ = some (.int .i64 a1_0) ∧ w'.cell? ⟨gb918, 1, none⟩ = some (.int .i64 a1_1)) (ds := []) #[false, false, false, false, false, false, false, false, false, false] (by kernel_rfl) rfl rfl ⟨(blk_cell BK939.out 0).trans rfl, (blk_cell BK939.out 1).trans rfl, (blk_cell BK939.out 2).trans rfl, (blk_cell BK918.out 0).trans rfl, (blk_cell BK918.out 1).trans rfl⟩ (fun hHeld => ?_); refine with_tabW laws_FnExactWalkOfNumbers.tab10 laws_FnExactWalkOfNumbers.bits10 (fun HT_ HW_ => ?_)
 generalize w42.drew = w43 at HO924 HO929 HO932 HO938 HO942 BK917 BK918 BK939 HB hHeld ⊢
 refine pure_ (i := 3) (N := some 45) (v := ?_) (a' := ?_) #[false, false, false, true, false, false, false, false, false, false] rfl rfl (any_of HT_.out (by kernel_rfl)) (fun _ _ _ h => h) (Or.inl ⟨by rfl, ?_⟩) ?_ ?_
 rotate_left
 ·intro w'
  go_simp
  with_reducible rfl
 rotate_left
 ·simp only [Act.put, List.setIfInBounds_toArray, List.set_cons_zero, List.set_cons_succ, i64_w, i32_w]
  rfl
 refine take_ (i := 0) (N := some 42) (v := ?_) (a' := ?_) #[true, false, false, true, false, false, false, false, false, false] rfl rfl (take_ofW HT_.out HW_.out (by kernel_rfl)) (fun _ _ _ h => h) (Or.inl ⟨by rfl, ?_⟩) hHeld ?_ ?_
 rotate_left
 ·rintro w' ⟨s0, s1, s2, s3, s4⟩
  go_simp
  with_reducible rfl
 rotate_left
 ·simp only [Act.put, List.setIfInBounds_toArray, List.set_cons_zero, List.set_cons_succ, i64_w, i32_w]
  rfl
 refine take_ (i := 1) (N := some 43) (v := ?_) (a' := ?_) #[true, true, false, true, false, false, false, false, false, false] rfl rfl (take_ofW HT_.out HW_.out (by kernel_rfl)) (fun _ _ _ h => h) (Or.inl ⟨by rfl, ?_⟩) hHeld ?_ ?_
 rotate_left
 ·rintro w' ⟨s0, s1, s2, s3, s4⟩
  go_simp
  with_reducible rfl
 rotate_left
 ·simp only [Act.put, List.setIfInBounds_toArray, List.set_cons_zero, List.set_cons_succ, i64_w, i32_w]
  rfl
 refine one_ (i := 2) (N := some 44) #[true, true, true, true, false, false, false, false, false, false] rfl rfl (one_of HT_.out (by kernel_rfl)) (by decide) (fun K hK => ?_)
 refine goes_ Try.func18 (by kernel_rfl) rfl #[.agg #[.int .i64 a1_0, .int .i64 a1_1]] (by rfl) rfl rfl zai3 ?_
 with_reducible refine (laws_toLeaper.calls a1_0 a1_1 t943 t944 _ A20.out).mono ?_
 rintro e w44 ⟨rfl, hb⟩
 refine ⟨_, rfl, ?_⟩
 have n0_ := Aside0.mk (Kd.R_below zai16 hb)
 have n1_ := Aside0.mk (Kd.R_below zai18 hb)
 have n2_ := Aside0.mk (Kd.R_below zai20 hb)
 have n3_ := Aside0.mk (Kd.R_below zai31 hb)
 have n4_ := Aside0.mk (Kd.R_below zai36 hb)
 have n5_ := Aside0.mk (blk_below (g := gb917) (o := .cells #[.int .i64 a0_0, .int .i64 a0_1, .slice A0_2 l0_2.length c0_2] 24 (0, 0)) zai2 hb)
 have n6_ := Aside0.mk (blk_below (g := gb918) (o := .cells #[.int .i64 a1_0, .int .i64 a1_1] 26 (0, 0)) zai4 hb)
 have n7_ := Aside0.mk (blk_below (g := gb939) (o := .cells #[.int .i64 t934, .int .i64 t935, .slice Ao41 t936.length co41] 30 (0, 0)) zai7 hb)
 have n8_ := Aside0.mk (below_step zai1 hb)
 clear HO924
 clear HO929
 clear HO932
 clear HO938
 clear HO942
 clear BK917
 clear BK918
 clear BK939
 clear HB
 have HO924 := n0_
 have HO929 := n1_
 have HO932 := n2_
 have HO938 := n3_
 have HO942 := n4_
 have BK917 := n5_
 have BK918 := n6_
 have BK939 := n7_
 have HB := n8_
 clear n0_ n1_ n2_ n3_ n4_ n5_ n6_ n7_ n8_
 (try clear hb)
 (try clear hb2)
 (try clear hk)
 (try clear hi)
 (try clear hna_)
 (try clear hnb_)
 obtain ⟨Ao45, co45, eo45⟩ := Kd.R_slice HO942.out
 (first | subst eo45 | (injection eo45 with f1_ f2_ f3_; have f4_ := f1_.symm; have f5_ := f3_.symm; clear f1_ f2_ f3_; subst f4_; subst f5_))
 refine hK.out _ _ ⟨(blk_cell BK939.out 0).trans rfl, (blk_cell BK939.out 1).trans rfl, (blk_cell BK939.out 2).trans rfl, (blk_cell BK918.out 0).trans rfl, (blk_cell BK918.out 1).trans rfl⟩ (fun hHeld => ?_)
 clear hK K
 refine norm_ (a' := ?_) ?_ ?_
 rotate_left
 ·show Act.put _ (some 44) _ = _
  simp only [Act.put, List.setIfInBounds_toArray, List.set_cons_zero, List.set_cons_succ, i64_w, i32_w]
  rfl
 refine one_ (i := 4) (N := some 46) #[true, true, true, true, true, false, false, false, false, false] rfl rfl (one_of HT_.out (by kernel_rfl)) (by decide) (fun K hK => ?_)
 refine goes_ Try.func37 (by kernel_rfl) rfl #[.agg #[.int .i64 t934, .int .i64 t935, .slice Ao41 t936.length co41], .agg #[.int .i64 t943, .int .i64 t944], .slice Ao45 t940.length co45] (by rfl) rfl rfl zai3 ?_
 with_reducible refine (impl_WalkOfNumbers.calls k t934 t935 _ _ t936 t943 t944 _ _ t940 t945 t948 _ ?side1 ?side2 ?side3 ?side4 A21.out).mono ?_
 (case side1 => repeat (first | exact (Kd.R_reads' HO938.out).2.2 | (with_reducible refine Kd.C_alloc ?_ _) | (with_reducible refine Kd.C_drewN ?_ _) | (with_reducible refine Kd.C_drew ?_)))
 (case side2 => exact (Kd.R_reads' HO938.out).2.1)
 (case side3 => repeat (first | exact (Kd.R_reads' HO942.out).2.2 | (with_reducible refine Kd.C_alloc ?_ _) | (with_reducible refine Kd.C_drewN ?_ _) | (with_reducible refine Kd.C_drew ?_)))
 (case side4 => exact (Kd.R_reads' HO942.out).2.1)
 rintro e w46 ⟨v946, rfl, ho0, hb⟩
 refine ⟨_, rfl, ?_⟩
 have n0_ := Aside0.mk (Kd.R_elder' zai16 (Kd.R_base ho0) hb)
 have n1_ := Aside0.mk (Kd.R_elder' zai18 (Kd.R_base ho0) hb)
 have n2_ := Aside0.mk (Kd.R_elder' zai20 (Kd.R_base ho0) hb)
 have n3_ := Aside0.mk (Kd.R_elder' zai31 (Kd.R_base ho0) hb)
 have n4_ := Aside0.mk (Kd.R_elder' zai36 (Kd.R_base ho0) hb)
 have n5_ := Aside0.mk (Kd.R_lower (Kd.R_new' (Kd.R_new' (Kd.R_new' (Kd.R_new' (Kd.R_new' ho0 (Kd.R_lt zai16)) (Kd.R_lt zai18)) (Kd.R_lt zai20)) (Kd.R_lt zai31)) (Kd.R_lt zai36)) (below_size zai1))
 have n6_ := Aside0.mk (blk_below (g := gb917) (o := .cells #[.int .i64 a0_0, .int .i64 a0_1, .slice A0_2 l0_2.length c0_2] 24 (0, 0)) zai2 hb)
 have n7_ := Aside0.mk (blk_below (g := gb918) (o := .cells #[.int .i64 a1_0, .int .i64 a1_1] 26 (0, 0)) zai4 hb)
 have n8_ := Aside0.mk (blk_below (g := gb939) (o := .cells #[.int .i64 t934, .int .i64 t935, .slice Ao41 t936.length co41] 30 (0, 0)) zai7 hb)
 have n9_ := Aside0.mk (below_step zai1 hb)
 clear HO924
 clear HO929
 clear HO932
 clear HO938
 clear HO942
 clear BK917
 clear BK918
 clear BK939
 clear HB
 have HO924 := n0_
 have HO929 := n1_
 have HO932 := n2_
 have HO938 := n3_
 have HO942 := n4_
 have HO947 := n5_
 have BK917 := n6_
 have BK918 := n7_
 have BK939 := n8_
 have HB := n9_
 clear n0_ n1_ n2_ n3_ n4_ n5_ n6_ n7_ n8_ n9_
 (try clear hb)
 (try clear hb2)
 (try clear hk)
 (try clear hi)
 (try clear ho0)
 (try clear hna_)
 (try clear hnb_)
 refine hK.out _ _ ⟨(blk_cell BK939.out 0).trans rfl, (blk_cell BK939.out 1).trans rfl, (blk_cell BK939.out 2).trans rfl, (blk_cell BK918.out 0).trans rfl, (blk_cell BK918.out 1).trans rfl⟩ (fun hHeld => ?_)
 clear hK K
 refine norm_ (a' := ?_) ?_ ?_
 rotate_left
 ·show Act.put _ (some 46) _ = _
  simp only [Act.put, List.setIfInBounds_toArray, List.set_cons_zero, List.set_cons_succ, i64_w, i32_w]
  rfl
 refine pure_ (i := 5) (N := some 41) (v := ?_) (a' := ?_) #[true, true, true, true, true, true, false, false, false, false] rfl rfl (any_of HT_.out (by kernel_rfl)) (fun _ _ _ h => h) (Or.inl ⟨by rfl, ?_⟩) ?_ ?_
 rotate_left
 ·intro w'
  go_simp
  with_reducible rfl
 rotate_left
 ·simp only [Act.put, List.setIfInBounds_toArray, List.set_cons_zero, List.set_cons_succ, i64_w, i32_w]
  rfl
 refine pure_ (i := 6) (N := some 47) (v := ?_) (a' := ?_) #[true, true, true, true, true, true, true, false, false, false] rfl rfl (any_of HT_.out (by kernel_rfl)) (fun _ _ _ h => h) (Or.inl ⟨by rfl, ?_⟩) ?_ ?_
 rotate_left
 ·intro w'
  go_simp
  with_reducible rfl
 rotate_left
 ·simp only [Act.put, List.setIfInBounds_toArray, List.set_cons_zero, List.set_cons_succ, i64_w, i32_w]
  rfl
 refine pure_ (i := 7) (N := some 48) (v := ?_) (a' := ?_) #[true, true, true, true, true, true, true, true, false, false] rfl rfl (any_of HT_.out (by kernel_rfl)) (fun _ _ _ h => h) (Or.inl ⟨by rfl, ?_⟩) ?_ ?_
 rotate_left
 ·intro w'
  go_simp
  with_reducible rfl
 rotate_left
 ·simp only [Act.put, List.setIfInBounds_toArray, List.set_cons_zero, List.set_cons_succ, i64_w, i32_w]
  rfl
 refine pure_ (i := 8) (N := some 12) (v := ?_) (a' := ?_) #[true, true, true, true, true, true, true, true, true, false] rfl rfl (any_of HT_.out (by kernel_rfl)) (fun _ _ _ h => h) (Or.inl ⟨by rfl, ?_⟩) ?_ ?_
 rotate_left
 ·intro w'
  go_simp
  with_reducible rfl
 rotate_left
 ·simp only [Act.put, List.setIfInBounds_toArray, List.set_cons_zero, List.set_cons_succ, i64_w, i32_w]
  rfl
 refine pure_ (i := 9) (N := some 13) (v := ?_) (a' := ?_) #[true, true, true, true, true, true, true, true, true, true] rfl rfl (any_of HT_.out (by kernel_rfl)) (fun _ _ _ h => h) (Or.inl ⟨by rfl, ?_⟩) ?_ ?_
 rotate_left
 ·intro w'
  go_simp
  with_reducible rfl
 rotate_left
 ·simp only [Act.put, List.setIfInBounds_toArray, List.set_cons_zero, List.set_cons_succ, i64_w, i32_w]
  rfl
 refine done_ (done_of HT_.out (by kernel_rfl)) ?_
 go_upto_region 11 with (fail)
 go_cut [57] (fun v57 wc => ∃ (kq : Nat) (x57_21 : Bool), v57 = .bool x57_21 ∧ Aside0 (laws_FnExactWalkOfNumbers.j0 kq l2 t930 t933 t940 t945 t948 x57_21 a0_0 a0_1 l0_2 a1_0 a1_1 t934 t935 t936 = some r) ∧ Aside0 (kq ≤ k) ∧ Aside0 (Kd.R (Kd.int .i64) 3 wc w.heap.size (fun k_ => some k_ ≠ ((.slice Ao45 t940.length co45) : Value).ownBlock ∧ some k_ ≠ (v946 : Value).ownBlock ∧ some k_ ≠ ((.slice Ao41 t936.length co41) : Value).ownBlock) v931 t930) ∧ Aside0 (Kd.R (Kd.int .i64) 3 wc w.heap.size (fun k_ => some k_ ≠ (v931 : Value).ownBlock ∧ some k_ ≠ (v946 : Value).ownBlock ∧ some k_ ≠ ((.slice Ao41 t936.length co41) : Value).ownBlock) (.slice Ao45 t940.length co45) t940) ∧ Aside0 (Kd.R (Kd.int .i64) 3 wc w.heap.size (fun k_ => some k_ ≠ (v931 : Value).ownBlock ∧ some k_ ≠ ((.slice Ao45 t940.length co45) : Value).ownBlock ∧ some k_ ≠ ((.slice Ao41 t936.length co41) : Value).ownBlock) v946 t945) ∧ Aside0 (Kd.R (Kd.int .i64) 3 wc w.heap.size (fun k_ => some k_ ≠ (v931 : Value).ownBlock ∧ some k_ ≠ ((.slice Ao45 t940.length co45) : Value).ownBlock ∧ some k_ ≠ (v946 : Value).ownBlock) (.slice Ao41 t936.length co41) t936) ∧ Aside0 (wc.heap[gb917]? = some (.cells #[.int .i64 a0_0, .int .i64 a0_1, (.slice A0_2 l0_2.length c0_2)] 24 (0, 0))) ∧ Aside0 (wc.heap[gb918]? = some (.cells #[.int .i64 a1_0, .int .i64 a1_1] 26 (0, 0))) ∧ Aside0 (wc.heap[gb939]? = some (.cells #[.int .i64 t934, .int .i64 t935, (.slice Ao41 t936.length co41)] 30 (0, 0))) ∧ Aside0 (Below w.heap.size w wc))
 case first =>
  have H := HC22.out
  clear HC22
  replace H := Option.bind_eq_some_iff.mp H
  obtain ⟨t949, A470, H⟩ := H
  replace H : (if t949 = true then (laws_FnExactWalkOfNumbers.j0 k l2 t930 t933 t940 t945 t948 (t948 != t933) a0_0 a0_1 l0_2 a1_0 a1_1 t934 t935 t936) else (laws_FnExactWalkOfNumbers.j0 k l2 t930 t933 t940 t945 t948 true a0_0 a0_1 l0_2 a1_0 a1_1 t934 t935 t936)) = some r := H
  have A47 := Aside0.mk A470
  clear A470
  by_cases c48 : t949 = true
  ·subst c48
   have H1 : (laws_FnExactWalkOfNumbers.j0 k l2 t930 t933 t940 t945 t948 (t948 != t933) a0_0 a0_1 l0_2 a1_0 a1_1 t934 t935 t936) = some r := by rw [if_pos rfl] at H; exact H
   clear H
   have H := H1
   clear H1
   have H' := Aside0.mk H
   clear H
   obtain ⟨Ao49, co49, eo49⟩ := Kd.R_slice HO947.out
   subst eo49
   obtain ⟨Ao50, co50, eo50⟩ := Kd.R_slice HO932.out
   subst eo50
   go_wp2_with (first | ((with_reducible refine gate_callee (f := 21) rfl ?_); refine goesL_ (some 51) rfl rfl Try.func21 (by kernel_rfl) rfl #[.slice Ao49 t945.length co49, .slice Ao50 t930.length co50] rfl zai3 ?_; (with_reducible refine (laws_eqIntS.calls k _ _ t945 _ _ t930 true _ ?side1 ?side2 ?side3 ?side4 A47.out).mono ?_); (case side1 => exact zai47); (case side2 => exact (Kd.R_reads' HO947.out).2.1); (case side3 => exact zai48); (case side4 => exact (Kd.R_reads' HO932.out).2.1); rintro e w' ⟨rfl, ⟨nd, rfl⟩⟩; refine ⟨_, rfl, ?_⟩))
   go_meet
   case rel => exact ⟨_, ((t948 != t933)), zai35, H', ⟨by first | omega | exact Nat.le_refl _⟩, ⟨zai43⟩, ⟨zai41⟩, ⟨zai40⟩, ⟨zai42⟩, ⟨zai2⟩, ⟨zai4⟩, ⟨zai7⟩, ⟨zai1⟩⟩
  replace c48 := Bool.eq_false_iff.mpr c48
  subst c48
  have H1 : (laws_FnExactWalkOfNumbers.j0 k l2 t930 t933 t940 t945 t948 true a0_0 a0_1 l0_2 a1_0 a1_1 t934 t935 t936) = some r := by rw [if_neg (show ¬ (false = true) by decide)] at H; exact H
  clear H
  have H := H1
  clear H1
  have H' := Aside0.mk H
  clear H
  obtain ⟨Ao51, co51, eo51⟩ := Kd.R_slice HO947.out
  subst eo51
  obtain ⟨Ao52, co52, eo52⟩ := Kd.R_slice HO932.out
  subst eo52
  go_wp2_with (first | ((with_reducible refine gate_callee (f := 21) rfl ?_); refine goesL_ (some 51) rfl rfl Try.func21 (by kernel_rfl) rfl #[.slice Ao51 t945.length co51, .slice Ao52 t930.length co52] rfl zai3 ?_; (with_reducible refine (laws_eqIntS.calls k _ _ t945 _ _ t930 false _ ?side1 ?side2 ?side3 ?side4 A47.out).mono ?_); (case side1 => exact zai47); (case side2 => exact (Kd.R_reads' HO947.out).2.1); (case side3 => exact zai48); (case side4 => exact (Kd.R_reads' HO932.out).2.1); rintro e w' ⟨rfl, ⟨nd, rfl⟩⟩; refine ⟨_, rfl, ?_⟩))
  go_meet
  case rel => exact ⟨_, (true), zai35, H', ⟨by first | omega | exact Nat.le_refl _⟩, ⟨zai43⟩, ⟨zai41⟩, ⟨zai40⟩, ⟨zai42⟩, ⟨zai2⟩, ⟨zai4⟩, ⟨zai7⟩, ⟨zai1⟩⟩
 case rest =>
  clear HC22
  try clear c1; try clear c2; try clear p2; try clear c3; try clear c4; try clear c4b0; try clear c4b1; try clear c8; try clear c8b0; try clear c9; try clear c11; try clear c15; try clear c17; try clear c18; try clear c19; try clear c21; try clear c25; try clear c36; try clear c37; try clear c38; try clear c39; try clear c48; try clear hcz12_0; try clear hcz12_1; try clear hcz12_2; try clear hcz26_0; try clear hcz26_1; try clear hcz26_2; try clear hcz35_0; try clear hcz35_1; try clear hcz35_2; try clear hcz40_0; try clear hcz40_1; try clear hcz40_2; try clear hfz12_0; try clear hfz12_1; try clear hfz12_2
  try clear hfz26_0; try clear hfz26_1; try clear hfz26_2; try clear hfz35_0; try clear hfz35_1; try clear hfz35_2; try clear hfz40_0; try clear hfz40_1; try clear hfz40_2
  obtain ⟨kq, x57_21, rfl, HA, HJ21, HO_8, HO_11, HO_12, HO_940002, BK917, BK918, BK939, HB⟩ := hcut
  cases kq with
  | zero => exact absurd HA.out (by simp [laws_FnExactWalkOfNumbers.j0])
  | succ kj21 =>
   have H := HA.out
   clear HA
   simp only [laws_FnExactWalkOfNumbers.j0] at H
   by_cases c53 : x57_21 = true
   ·subst c53
    have H1 : (some false) = some r := by rw [if_pos rfl] at H; exact H
    clear H
    have H := H1
    clear H1
    obtain rfl := Option.some.inj H
    go_wp2
    go_ret
    exact ⟨zai17, zai1⟩
   replace c53 := Bool.eq_false_iff.mpr c53
   subst c53
   have H1 : ((laws_toBoard.f kj21 a0_0 a0_1 l0_2).bind fun bt950 => ((laws_eqBoard.f kj21 t934 t935 t936 bt950.1 bt950.2.1 bt950.2.2).bind fun t955 => (if t955 = true then ((laws_toIntS.f kj21 l2).bind fun t956 => ((laws_eqIntS.f kj21 t940 t956).bind fun t959 => (if t959 = true then ((laws_markBoard.f kj21 t934 t935 t936 1).bind fun bt960 => ((laws_markIntS.f kj21 t940 bt960.1).bind fun bt962 => (if bt962.1 < 0 then (laws_FnExactWalkOfNumbers.j1 kj21 l2 t930 t933 t945 true a0_0 a0_1 l0_2 a1_0 a1_1) else ((laws_eqIntS.f kj21 t945 t930).bind fun t964 => (if t964 = true then (laws_FnExactWalkOfNumbers.j1 kj21 l2 t930 t933 t945 (t948 != t933) a0_0 a0_1 l0_2 a1_0 a1_1) else (laws_FnExactWalkOfNumbers.j1 kj21 l2 t930 t933 t945 true a0_0 a0_1 l0_2 a1_0 a1_1)))))) else (some false)))) else (some false)))) = some r := by rw [if_neg (show ¬ (false = true) by decide)] at H; exact H
   clear H
   have H := H1
   clear H1
   replace H := Option.bind_eq_some_iff.mp H
   obtain ⟨⟨t950, t951, t952⟩, A540, H⟩ := H
   replace H : ((laws_eqBoard.f kj21 t934 t935 t936 t950 t951 t952).bind fun t955 => (if t955 = true then ((laws_toIntS.f kj21 l2).bind fun t956 => ((laws_eqIntS.f kj21 t940 t956).bind fun t959 => (if t959 = true then ((laws_markBoard.f kj21 t934 t935 t936 1).bind fun bt960 => ((laws_markIntS.f kj21 t940 bt960.1).bind fun bt962 => (if bt962.1 < 0 then (laws_FnExactWalkOfNumbers.j1 kj21 l2 t930 t933 t945 true a0_0 a0_1 l0_2 a1_0 a1_1) else ((laws_eqIntS.f kj21 t945 t930).bind fun t964 => (if t964 = true then (laws_FnExactWalkOfNumbers.j1 kj21 l2 t930 t933 t945 (t948 != t933) a0_0 a0_1 l0_2 a1_0 a1_1) else (laws_FnExactWalkOfNumbers.j1 kj21 l2 t930 t933 t945 true a0_0 a0_1 l0_2 a1_0 a1_1)))))) else (some false)))) else (some false))) = some r := H
   have A54 := Aside0.mk A540
   clear A540
   replace H := Option.bind_eq_some_iff.mp H
   obtain ⟨t955, A550, H⟩ := H
   replace H : (if t955 = true then ((laws_toIntS.f kj21 l2).bind fun t956 => ((laws_eqIntS.f kj21 t940 t956).bind fun t959 => (if t959 = true then ((laws_markBoard.f kj21 t934 t935 t936 1).bind fun bt960 => ((laws_markIntS.f kj21 t940 bt960.1).bind fun bt962 => (if bt962.1 < 0 then (laws_FnExactWalkOfNumbers.j1 kj21 l2 t930 t933 t945 true a0_0 a0_1 l0_2 a1_0 a1_1) else ((laws_eqIntS.f kj21 t945 t930).bind fun t964 => (if t964 = true then (laws_FnExactWalkOfNumbers.j1 kj21 l2 t930 t933 t945 (t948 != t933) a0_0 a0_1 l0_2 a1_0 a1_1) else (laws_FnExactWalkOfNumbers.j1 kj21 l2 t930 t933 t945 true a0_0 a0_1 l0_2 a1_0 a1_1)))))) else (some false)))) else (some false)) = some r := H
   have A55 := Aside0.mk A550
   clear A550
   by_cases c56 : t955 = true
   rotate_left
   ·replace c56 := Bool.eq_false_iff.mpr c56
    subst c56
    have H1 : (some false) = some r := by rw [if_neg (show ¬ (false = true) by decide)] at H; exact H
    clear H
    have H := H1
    clear H1
    obtain rfl := Option.some.inj H
    try go_wp2
    have n0_ := Aside0.mk (Kd.R_drew HO_8.out)
    have n1_ := Aside0.mk (Kd.R_drew HO_11.out)
    have n2_ := Aside0.mk (Kd.R_drew HO_12.out)
    have n3_ := Aside0.mk (Kd.R_drew HO_940002.out)
    have n4_ := Aside0.mk (blk_drew BK917.out)
    have n5_ := Aside0.mk (blk_drew BK918.out)
    have n6_ := Aside0.mk (blk_drew BK939.out)
    have n7_ := Aside0.mk (below_drew1 HB.out)
    clear HO_8
    clear HO_11
    clear HO_12
    clear HO_940002
    clear BK917
    clear BK918
    clear BK939
    clear HB
    have HO_8 := n0_
    have HO_11 := n1_
    have HO_12 := n2_
    have HO_940002 := n3_
    have BK917 := n4_
    have BK918 := n5_
    have BK939 := n6_
    have HB := n7_
    clear n0_ n1_ n2_ n3_ n4_ n5_ n6_ n7_
    refine start_ (n := 5) (S := fun w' => w'.cell? ⟨gb939, 0, none⟩ = some (.int .i64 t934) ∧ w'.cell? ⟨gb939, 1, none⟩ = some (.int .i64 t935) ∧ w'.cell? ⟨gb939, 2, none⟩ = some (.slice Ao41 t936.length co41) ∧ w'.cell? ⟨gb917, 0, none⟩ = some (.int .i64 a0_0) ∧ w'.cell? ⟨gb917, 1, none⟩ = some (.int .i64 a0_1) ∧ w'.cell? ⟨gb917, 2, none⟩ = some (.slice A0_2 l0_2.length c0_2)) (ds := []) #[false, false, false, false, false] (by kernel_rfl) rfl rfl ⟨(blk_cell BK939.out 0).trans rfl, (blk_cell BK939.out 1).trans rfl, (blk_cell BK939.out 2).trans rfl, (blk_cell BK917.out 0).trans rfl, (blk_cell BK917.out 1).trans rfl, (blk_cell BK917.out 2).trans rfl⟩ (fun hHeld => ?_)
    generalize wc.drew = w120 at HO_8 HO_11 HO_12 HO_940002 BK917 BK918 BK939 HB hHeld ⊢
    refine take_ (i := 0) (N := some 58) (v := ?_) (a' := ?_) #[true, false, false, false, false] rfl rfl (by kernel_rfl) (fun _ _ _ h => h) (Or.inl ⟨by rfl, ?_⟩) hHeld ?_ ?_
    rotate_left
    ·rintro w' ⟨s0, s1, s2, s3, s4, s5⟩
     go_simp
     with_reducible rfl
    rotate_left
    ·simp only [Act.put, List.setIfInBounds_toArray, List.set_cons_zero, List.set_cons_succ, i64_w, i32_w]
     rfl
    refine take_ (i := 1) (N := some 59) (v := ?_) (a' := ?_) #[true, true, false, false, false] rfl rfl (by kernel_rfl) (fun _ _ _ h => h) (Or.inl ⟨by rfl, ?_⟩) hHeld ?_ ?_
    rotate_left
    ·rintro w' ⟨s0, s1, s2, s3, s4, s5⟩
     go_simp
     with_reducible rfl
    rotate_left
    ·simp only [Act.put, List.setIfInBounds_toArray, List.set_cons_zero, List.set_cons_succ, i64_w, i32_w]
     rfl
    refine one_ (i := 2) (N := some 60) #[true, true, true, false, false] rfl rfl (by kernel_rfl) (by decide) (fun K hK => ?_)
    refine goes_ Try.func17 (by kernel_rfl) rfl #[.agg #[.int .i64 a0_0, .int .i64 a0_1, .slice A0_2 l0_2.length c0_2]] (by rfl) rfl rfl zai3 ?_
    with_reducible refine (laws_toBoard.calls kj21 a0_0 a0_1 _ _ l0_2 t950 t951 t952 _ ?side1 ?side2 A54.out).mono ?_
    (case side1 => exact zai13)
    (case side2 => exact HC0_2.out)
    rintro e w121 ⟨v953, rfl, ho0, hb⟩
    refine ⟨_, rfl, ?_⟩
    have n0_ := Aside0.mk (Kd.R_elder' zai10 (Kd.R_base ho0) hb)
    have n1_ := Aside0.mk (Kd.R_elder' zai12 (Kd.R_base ho0) hb)
    have n2_ := Aside0.mk (Kd.R_elder' zai9 (Kd.R_base ho0) hb)
    have n3_ := Aside0.mk (Kd.R_elder' zai8 (Kd.R_base ho0) hb)
    have n4_ := Aside0.mk (Kd.R_lower (Kd.R_new' (Kd.R_new' (Kd.R_new' (Kd.R_new' ho0 (Kd.R_lt zai10)) (Kd.R_lt zai12)) (Kd.R_lt zai9)) (Kd.R_lt zai8)) (below_size zai1))
    have n5_ := Aside0.mk (blk_below (g := gb917) (o := .cells #[.int .i64 a0_0, .int .i64 a0_1, .slice A0_2 l0_2.length c0_2] 24 (0, 0)) zai2 hb)
    have n6_ := Aside0.mk (blk_below (g := gb918) (o := .cells #[.int .i64 a1_0, .int .i64 a1_1] 26 (0, 0)) zai4 hb)
    have n7_ := Aside0.mk (blk_below (g := gb939) (o := .cells #[.int .i64 t934, .int .i64 t935, .slice Ao41 t936.length co41] 30 (0, 0)) zai7 hb)
    have n8_ := Aside0.mk (below_step zai1 hb)
    clear HO_8
    clear HO_11
    clear HO_12
    clear HO_940002
    clear BK917
    clear BK918
    clear BK939
    clear HB
    have HO_8 := n0_
    have HO_11 := n1_
    have HO_12 := n2_
    have HO_940002 := n3_
    have HO954 := n4_
    have BK917 := n5_
    have BK918 := n6_
    have BK939 := n7_
    have HB := n8_
    clear n0_ n1_ n2_ n3_ n4_ n5_ n6_ n7_ n8_
    (try clear hb)
    (try clear hb2)
    (try clear hk)
    (try clear hi)
    (try clear ho0)
    (try clear hna_)
    (try clear hnb_)
    obtain ⟨Ao122, co122, eo122⟩ := Kd.R_slice HO954.out
    (first | subst eo122 | (injection eo122 with f1_ f2_ f3_; have f4_ := f1_.symm; have f5_ := f3_.symm; clear f1_ f2_ f3_; subst f4_; subst f5_))
    refine hK.out _ _ ⟨(blk_cell BK939.out 0).trans rfl, (blk_cell BK939.out 1).trans rfl, (blk_cell BK939.out 2).trans rfl, (blk_cell BK917.out 0).trans rfl, (blk_cell BK917.out 1).trans rfl, (blk_cell BK917.out 2).trans rfl⟩ (fun hHeld => ?_)
    clear hK K
    refine norm_ (a' := ?_) ?_ ?_
    rotate_left
    ·show Act.put _ (some 60) _ = _
     simp only [Act.put, List.setIfInBounds_toArray, List.set_cons_zero, List.set_cons_succ, i64_w, i32_w]
     rfl
    refine one_ (i := 3) (N := some 61) #[true, true, true, true, false] rfl rfl (by kernel_rfl) (by decide) (fun K hK => ?_)
    refine goes_ Try.func22 (by kernel_rfl) rfl #[.agg #[.int .i64 t934, .int .i64 t935, .slice Ao41 t936.length co41], .agg #[.int .i64 t950, .int .i64 t951, .slice Ao122 t952.length co122]] (by rfl) rfl rfl zai3 ?_
    with_reducible refine (laws_eqBoard.calls kj21 t934 t935 _ _ t936 t950 t951 _ _ t952 false _ ?side1 ?side2 ?side3 ?side4 A55.out).mono ?_
    (case side1 => exact zai29)
    (case side2 => exact (Kd.R_reads' HO_940002.out).2.1)
    (case side3 => exact zai30)
    (case side4 => exact (Kd.R_reads' HO954.out).2.1)
    rintro e w123 ⟨rfl, hb⟩
    refine ⟨_, rfl, ?_⟩
    have n0_ := Aside0.mk (Kd.R_below zai10 hb)
    have n1_ := Aside0.mk (Kd.R_below zai12 hb)
    have n2_ := Aside0.mk (Kd.R_below zai9 hb)
    have n3_ := Aside0.mk (Kd.R_below zai8 hb)
    have n4_ := Aside0.mk (Kd.R_below zai19 hb)
    have n5_ := Aside0.mk (blk_below (g := gb917) (o := .cells #[.int .i64 a0_0, .int .i64 a0_1, .slice A0_2 l0_2.length c0_2] 24 (0, 0)) zai2 hb)
    have n6_ := Aside0.mk (blk_below (g := gb918) (o := .cells #[.int .i64 a1_0, .int .i64 a1_1] 26 (0, 0)) zai4 hb)
    have n7_ := Aside0.mk (blk_below (g := gb939) (o := .cells #[.int .i64 t934, .int .i64 t935, .slice Ao41 t936.length co41] 30 (0, 0)) zai7 hb)
    have n8_ := Aside0.mk (below_step zai1 hb)
    clear HO_8
    clear HO_11
    clear HO_12
    clear HO_940002
    clear HO954
    clear BK917
    clear BK918
    clear BK939
    clear HB
    have HO_8 := n0_
    have HO_11 := n1_
    have HO_12 := n2_
    have HO_940002 := n3_
    have HO954 := n4_
    have BK917 := n5_
    have BK918 := n6_
    have BK939 := n7_
    have HB := n8_
    clear n0_ n1_ n2_ n3_ n4_ n5_ n6_ n7_ n8_
    (try clear hb)
    (try clear hb2)
    (try clear hk)
    (try clear hi)
    (try clear hna_)
    (try clear hnb_)
    refine hK.out _ _ ⟨(blk_cell BK939.out 0).trans rfl, (blk_cell BK939.out 1).trans rfl, (blk_cell BK939.out 2).trans rfl, (blk_cell BK917.out 0).trans rfl, (blk_cell BK917.out 1).trans rfl, (blk_cell BK917.out 2).trans rfl⟩ (fun hHeld => ?_)
    clear hK K
    refine norm_ (a' := ?_) ?_ ?_
    rotate_left
    ·show Act.put _ (some 61) _ = _
     simp only [Act.put, List.setIfInBounds_toArray, List.set_cons_zero, List.set_cons_succ, i64_w, i32_w]
     rfl
    refine pure_ (i := 4) (N := some 62) (v := ?_) (a' := ?_) #[true, true, true, true, true] rfl rfl (by kernel_rfl) (fun _ _ _ h => h) (Or.inl ⟨by rfl, ?_⟩) ?_ ?_
    rotate_left
    ·intro w'
     go_simp
     with_reducible rfl
    rotate_left
    ·simp only [Act.put, List.setIfInBounds_toArray, List.set_cons_zero, List.set_cons_succ, i64_w, i32_w]
     rfl
    refine done_ (by kernel_rfl) ?_
    try go_wp2
    go_ret
    exact ⟨zai17, zai1⟩
   subst c56
   have H1 : ((laws_toIntS.f kj21 l2).bind fun t956 => ((laws_eqIntS.f kj21 t940 t956).bind fun t959 => (if t959 = true then ((laws_markBoard.f kj21 t934 t935 t936 1).bind fun bt960 => ((laws_markIntS.f kj21 t940 bt960.1).bind fun bt962 => (if bt962.1 < 0 then (laws_FnExactWalkOfNumbers.j1 kj21 l2 t930 t933 t945 true a0_0 a0_1 l0_2 a1_0 a1_1) else ((laws_eqIntS.f kj21 t945 t930).bind fun t964 => (if t964 = true then (laws_FnExactWalkOfNumbers.j1 kj21 l2 t930 t933 t945 (t948 != t933) a0_0 a0_1 l0_2 a1_0 a1_1) else (laws_FnExactWalkOfNumbers.j1 kj21 l2 t930 t933 t945 true a0_0 a0_1 l0_2 a1_0 a1_1)))))) else (some false)))) = some r := by rw [if_pos rfl] at H; exact H
   clear H
   have H := H1
   clear H1
   replace H := Option.bind_eq_some_iff.mp H
   obtain ⟨t956, A570, H⟩ := H
   replace H : ((laws_eqIntS.f kj21 t940 t956).bind fun t959 => (if t959 = true then ((laws_markBoard.f kj21 t934 t935 t936 1).bind fun bt960 => ((laws_markIntS.f kj21 t940 bt960.1).bind fun bt962 => (if bt962.1 < 0 then (laws_FnExactWalkOfNumbers.j1 kj21 l2 t930 t933 t945 true a0_0 a0_1 l0_2 a1_0 a1_1) else ((laws_eqIntS.f kj21 t945 t930).bind fun t964 => (if t964 = true then (laws_FnExactWalkOfNumbers.j1 kj21 l2 t930 t933 t945 (t948 != t933) a0_0 a0_1 l0_2 a1_0 a1_1) else (laws_FnExactWalkOfNumbers.j1 kj21 l2 t930 t933 t945 true a0_0 a0_1 l0_2 a1_0 a1_1)))))) else (some false))) = some r := H
   have A57 := Aside0.mk A570
   clear A570
   replace H := Option.bind_eq_some_iff.mp H
   obtain ⟨t959, A580, H⟩ := H
   replace H : (if t959 = true then ((laws_markBoard.f kj21 t934 t935 t936 1).bind fun bt960 => ((laws_markIntS.f kj21 t940 bt960.1).bind fun bt962 => (if bt962.1 < 0 then (laws_FnExactWalkOfNumbers.j1 kj21 l2 t930 t933 t945 true a0_0 a0_1 l0_2 a1_0 a1_1) else ((laws_eqIntS.f kj21 t945 t930).bind fun t964 => (if t964 = true then (laws_FnExactWalkOfNumbers.j1 kj21 l2 t930 t933 t945 (t948 != t933) a0_0 a0_1 l0_2 a1_0 a1_1) else (laws_FnExactWalkOfNumbers.j1 kj21 l2 t930 t933 t945 true a0_0 a0_1 l0_2 a1_0 a1_1)))))) else (some false)) = some r := H
   have A58 := Aside0.mk A580
   clear A580
   by_cases c59 : t959 = true
   rotate_left
   ·replace c59 := Bool.eq_false_iff.mpr c59
    subst c59
    have H1 : (some false) = some r := by rw [if_neg (show ¬ (false = true) by decide)] at H; exact H
    clear H
    have H := H1
    clear H1
    obtain rfl := Option.some.inj H
    try go_wp2
    have n0_ := Aside0.mk (Kd.R_drew HO_8.out)
    have n1_ := Aside0.mk (Kd.R_drew HO_11.out)
    have n2_ := Aside0.mk (Kd.R_drew HO_12.out)
    have n3_ := Aside0.mk (Kd.R_drew HO_940002.out)
    have n4_ := Aside0.mk (blk_drew BK917.out)
    have n5_ := Aside0.mk (blk_drew BK918.out)
    have n6_ := Aside0.mk (blk_drew BK939.out)
    have n7_ := Aside0.mk (below_drew1 HB.out)
    clear HO_8
    clear HO_11
    clear HO_12
    clear HO_940002
    clear BK917
    clear BK918
    clear BK939
    clear HB
    have HO_8 := n0_
    have HO_11 := n1_
    have HO_12 := n2_
    have HO_940002 := n3_
    have BK917 := n4_
    have BK918 := n5_
    have BK939 := n6_
    have HB := n7_
    clear n0_ n1_ n2_ n3_ n4_ n5_ n6_ n7_
    refine start_ (n := 5) (S := fun w' => w'.cell? ⟨gb939, 0, none⟩ = some (.int .i64 t934) ∧ w'.cell? ⟨gb939, 1, none⟩ = some (.int .i64 t935) ∧ w'.cell? ⟨gb939, 2, none⟩ = some (.slice Ao41 t936.length co41) ∧ w'.cell? ⟨gb917, 0, none⟩ = some (.int .i64 a0_0) ∧ w'.cell? ⟨gb917, 1, none⟩ = some (.int .i64 a0_1) ∧ w'.cell? ⟨gb917, 2, none⟩ = some (.slice A0_2 l0_2.length c0_2)) (ds := []) #[false, false, false, false, false] (by kernel_rfl) rfl rfl ⟨(blk_cell BK939.out 0).trans rfl, (blk_cell BK939.out 1).trans rfl, (blk_cell BK939.out 2).trans rfl, (blk_cell BK917.out 0).trans rfl, (blk_cell BK917.out 1).trans rfl, (blk_cell BK917.out 2).trans rfl⟩ (fun hHeld => ?_)
    generalize wc.drew = w114 at HO_8 HO_11 HO_12 HO_940002 BK917 BK918 BK939 HB hHeld ⊢
    refine take_ (i := 0) (N := some 58) (v := ?_) (a' := ?_) #[true, false, false, false, false] rfl rfl (by kernel_rfl) (fun _ _ _ h => h) (Or.inl ⟨by rfl, ?_⟩) hHeld ?_ ?_
    rotate_left
    ·rintro w' ⟨s0, s1, s2, s3, s4, s5⟩
     go_simp
     with_reducible rfl
    rotate_left
    ·simp only [Act.put, List.setIfInBounds_toArray, List.set_cons_zero, List.set_cons_succ, i64_w, i32_w]
     rfl
    refine take_ (i := 1) (N := some 59) (v := ?_) (a' := ?_) #[true, true, false, false, false] rfl rfl (by kernel_rfl) (fun _ _ _ h => h) (Or.inl ⟨by rfl, ?_⟩) hHeld ?_ ?_
    rotate_left
    ·rintro w' ⟨s0, s1, s2, s3, s4, s5⟩
     go_simp
     with_reducible rfl
    rotate_left
    ·simp only [Act.put, List.setIfInBounds_toArray, List.set_cons_zero, List.set_cons_succ, i64_w, i32_w]
     rfl
    refine one_ (i := 2) (N := some 60) #[true, true, true, false, false] rfl rfl (by kernel_rfl) (by decide) (fun K hK => ?_)
    refine goes_ Try.func17 (by kernel_rfl) rfl #[.agg #[.int .i64 a0_0, .int .i64 a0_1, .slice A0_2 l0_2.length c0_2]] (by rfl) rfl rfl zai3 ?_
    with_reducible refine (laws_toBoard.calls kj21 a0_0 a0_1 _ _ l0_2 t950 t951 t952 _ ?side1 ?side2 A54.out).mono ?_
    (case side1 => exact zai13)
    (case side2 => exact HC0_2.out)
    rintro e w115 ⟨v953, rfl, ho0, hb⟩
    refine ⟨_, rfl, ?_⟩
    have n0_ := Aside0.mk (Kd.R_elder' zai10 (Kd.R_base ho0) hb)
    have n1_ := Aside0.mk (Kd.R_elder' zai12 (Kd.R_base ho0) hb)
    have n2_ := Aside0.mk (Kd.R_elder' zai9 (Kd.R_base ho0) hb)
    have n3_ := Aside0.mk (Kd.R_elder' zai8 (Kd.R_base ho0) hb)
    have n4_ := Aside0.mk (Kd.R_lower (Kd.R_new' (Kd.R_new' (Kd.R_new' (Kd.R_new' ho0 (Kd.R_lt zai10)) (Kd.R_lt zai12)) (Kd.R_lt zai9)) (Kd.R_lt zai8)) (below_size zai1))
    have n5_ := Aside0.mk (blk_below (g := gb917) (o := .cells #[.int .i64 a0_0, .int .i64 a0_1, .slice A0_2 l0_2.length c0_2] 24 (0, 0)) zai2 hb)
    have n6_ := Aside0.mk (blk_below (g := gb918) (o := .cells #[.int .i64 a1_0, .int .i64 a1_1] 26 (0, 0)) zai4 hb)
    have n7_ := Aside0.mk (blk_below (g := gb939) (o := .cells #[.int .i64 t934, .int .i64 t935, .slice Ao41 t936.length co41] 30 (0, 0)) zai7 hb)
    have n8_ := Aside0.mk (below_step zai1 hb)
    clear HO_8
    clear HO_11
    clear HO_12
    clear HO_940002
    clear BK917
    clear BK918
    clear BK939
    clear HB
    have HO_8 := n0_
    have HO_11 := n1_
    have HO_12 := n2_
    have HO_940002 := n3_
    have HO954 := n4_
    have BK917 := n5_
    have BK918 := n6_
    have BK939 := n7_
    have HB := n8_
    clear n0_ n1_ n2_ n3_ n4_ n5_ n6_ n7_ n8_
    (try clear hb)
    (try clear hb2)
    (try clear hk)
    (try clear hi)
    (try clear ho0)
    (try clear hna_)
    (try clear hnb_)
    obtain ⟨Ao116, co116, eo116⟩ := Kd.R_slice HO954.out
    (first | subst eo116 | (injection eo116 with f1_ f2_ f3_; have f4_ := f1_.symm; have f5_ := f3_.symm; clear f1_ f2_ f3_; subst f4_; subst f5_))
    refine hK.out _ _ ⟨(blk_cell BK939.out 0).trans rfl, (blk_cell BK939.out 1).trans rfl, (blk_cell BK939.out 2).trans rfl, (blk_cell BK917.out 0).trans rfl, (blk_cell BK917.out 1).trans rfl, (blk_cell BK917.out 2).trans rfl⟩ (fun hHeld => ?_)
    clear hK K
    refine norm_ (a' := ?_) ?_ ?_
    rotate_left
    ·show Act.put _ (some 60) _ = _
     simp only [Act.put, List.setIfInBounds_toArray, List.set_cons_zero, List.set_cons_succ, i64_w, i32_w]
     rfl
    refine one_ (i := 3) (N := some 61) #[true, true, true, true, false] rfl rfl (by kernel_rfl) (by decide) (fun K hK => ?_)
    refine goes_ Try.func22 (by kernel_rfl) rfl #[.agg #[.int .i64 t934, .int .i64 t935, .slice Ao41 t936.length co41], .agg #[.int .i64 t950, .int .i64 t951, .slice Ao116 t952.length co116]] (by rfl) rfl rfl zai3 ?_
    with_reducible refine (laws_eqBoard.calls kj21 t934 t935 _ _ t936 t950 t951 _ _ t952 true _ ?side1 ?side2 ?side3 ?side4 A55.out).mono ?_
    (case side1 => exact zai29)
    (case side2 => exact (Kd.R_reads' HO_940002.out).2.1)
    (case side3 => exact zai30)
    (case side4 => exact (Kd.R_reads' HO954.out).2.1)
    rintro e w117 ⟨rfl, hb⟩
    refine ⟨_, rfl, ?_⟩
    have n0_ := Aside0.mk (Kd.R_below zai10 hb)
    have n1_ := Aside0.mk (Kd.R_below zai12 hb)
    have n2_ := Aside0.mk (Kd.R_below zai9 hb)
    have n3_ := Aside0.mk (Kd.R_below zai8 hb)
    have n4_ := Aside0.mk (Kd.R_below zai19 hb)
    have n5_ := Aside0.mk (blk_below (g := gb917) (o := .cells #[.int .i64 a0_0, .int .i64 a0_1, .slice A0_2 l0_2.length c0_2] 24 (0, 0)) zai2 hb)
    have n6_ := Aside0.mk (blk_below (g := gb918) (o := .cells #[.int .i64 a1_0, .int .i64 a1_1] 26 (0, 0)) zai4 hb)
    have n7_ := Aside0.mk (blk_below (g := gb939) (o := .cells #[.int .i64 t934, .int .i64 t935, .slice Ao41 t936.length co41] 30 (0, 0)) zai7 hb)
    have n8_ := Aside0.mk (below_step zai1 hb)
    clear HO_8
    clear HO_11
    clear HO_12
    clear HO_940002
    clear HO954
    clear BK917
    clear BK918
    clear BK939
    clear HB
    have HO_8 := n0_
    have HO_11 := n1_
    have HO_12 := n2_
    have HO_940002 := n3_
    have HO954 := n4_
    have BK917 := n5_
    have BK918 := n6_
    have BK939 := n7_
    have HB := n8_
    clear n0_ n1_ n2_ n3_ n4_ n5_ n6_ n7_ n8_
    (try clear hb)
    (try clear hb2)
    (try clear hk)
    (try clear hi)
    (try clear hna_)
    (try clear hnb_)
    refine hK.out _ _ ⟨(blk_cell BK939.out 0).trans rfl, (blk_cell BK939.out 1).trans rfl, (blk_cell BK939.out 2).trans rfl, (blk_cell BK917.out 0).trans rfl, (blk_cell BK917.out 1).trans rfl, (blk_cell BK917.out 2).trans rfl⟩ (fun hHeld => ?_)
    clear hK K
    refine norm_ (a' := ?_) ?_ ?_
    rotate_left
    ·show Act.put _ (some 61) _ = _
     simp only [Act.put, List.setIfInBounds_toArray, List.set_cons_zero, List.set_cons_succ, i64_w, i32_w]
     rfl
    refine pure_ (i := 4) (N := some 62) (v := ?_) (a' := ?_) #[true, true, true, true, true] rfl rfl (by kernel_rfl) (fun _ _ _ h => h) (Or.inl ⟨by rfl, ?_⟩) ?_ ?_
    rotate_left
    ·intro w'
     go_simp
     with_reducible rfl
    rotate_left
    ·simp only [Act.put, List.setIfInBounds_toArray, List.set_cons_zero, List.set_cons_succ, i64_w, i32_w]
     rfl
    refine done_ (by kernel_rfl) ?_
    try go_wp2_with (first | ((with_reducible refine gate_callee (f := 19) rfl ?_); refine goesL_ (some 65) rfl rfl Try.func19 (by kernel_rfl) rfl #[.slice A2 l2.length c2] rfl zai3 ?_; (with_reducible refine (laws_toIntS.calls kj21 _ _ l2 t956 _ ?side1 ?side2 A57.out).mono ?_); (case side1 => exact zai21); (case side2 => exact HC2.out); rintro e w118 ⟨v957, rfl, ho0, hb⟩; refine ⟨_, rfl, ?_⟩; have n0_ := Aside0.mk (Kd.R_elder' zai10 (Kd.R_base ho0) hb); have n1_ := Aside0.mk (Kd.R_elder' zai12 (Kd.R_base ho0) hb); have n2_ := Aside0.mk (Kd.R_elder' zai9 (Kd.R_base ho0) hb); have n3_ := Aside0.mk (Kd.R_elder' zai8 (Kd.R_base ho0) hb); have n4_ := Aside0.mk (Kd.R_elder' zai19 (Kd.R_base ho0) hb); have n5_ := Aside0.mk (Kd.R_lower (Kd.R_new' (Kd.R_new' (Kd.R_new' (Kd.R_new' (Kd.R_new' ho0 (Kd.R_lt zai10)) (Kd.R_lt zai12)) (Kd.R_lt zai9)) (Kd.R_lt zai8)) (Kd.R_lt zai19)) (below_size zai1)); have n6_ := Aside0.mk (blk_below (g := gb917) (o := .cells #[.int .i64 a0_0, .int .i64 a0_1, .slice A0_2 l0_2.length c0_2] 24 (0, 0)) zai2 hb); have n7_ := Aside0.mk (blk_below (g := gb918) (o := .cells #[.int .i64 a1_0, .int .i64 a1_1] 26 (0, 0)) zai4 hb); have n8_ := Aside0.mk (blk_below (g := gb939) (o := .cells #[.int .i64 t934, .int .i64 t935, .slice Ao41 t936.length co41] 30 (0, 0)) zai7 hb); have n9_ := Aside0.mk (below_step zai1 hb); clear HO_8; clear HO_11; clear HO_12; clear HO_940002; clear HO954; clear BK917; clear BK918; clear BK939; clear HB; have HO_8 := n0_; have HO_11 := n1_; have HO_12 := n2_; have HO_940002 := n3_; have HO954 := n4_; have HO958 := n5_; have BK917 := n6_; have BK918 := n7_; have BK939 := n8_; have HB := n9_; clear n0_ n1_ n2_ n3_ n4_ n5_ n6_ n7_ n8_ n9_; (try clear hb); (try clear hb2); (try clear hk); (try clear hi); (try clear ho0); (try clear hna_); (try clear hnb_); obtain ⟨Ao119, co119, eo119⟩ := Kd.R_slice HO958.out; subst eo119) | ((with_reducible refine gate_callee (f := 21) rfl ?_); refine goesL_ (some 66) rfl rfl Try.func21 (by kernel_rfl) rfl #[.slice Ao45 t940.length co45, .slice Ao119 t956.length co119] rfl zai3 ?_; (with_reducible refine (laws_eqIntS.calls kj21 _ _ t940 _ _ t956 false _ ?side1 ?side2 ?side3 ?side4 A58.out).mono ?_); (case side1 => exact zai44); (case side2 => exact (Kd.R_reads' HO_11.out).2.1); (case side3 => exact zai46); (case side4 => exact (Kd.R_reads' HO958.out).2.1); rintro e w' ⟨rfl, ⟨nd, rfl⟩⟩; refine ⟨_, rfl, ?_⟩))
    go_ret
    exact ⟨zai17, zai1⟩
   subst c59
   have H1 : ((laws_markBoard.f kj21 t934 t935 t936 1).bind fun bt960 => ((laws_markIntS.f kj21 t940 bt960.1).bind fun bt962 => (if bt962.1 < 0 then (laws_FnExactWalkOfNumbers.j1 kj21 l2 t930 t933 t945 true a0_0 a0_1 l0_2 a1_0 a1_1) else ((laws_eqIntS.f kj21 t945 t930).bind fun t964 => (if t964 = true then (laws_FnExactWalkOfNumbers.j1 kj21 l2 t930 t933 t945 (t948 != t933) a0_0 a0_1 l0_2 a1_0 a1_1) else (laws_FnExactWalkOfNumbers.j1 kj21 l2 t930 t933 t945 true a0_0 a0_1 l0_2 a1_0 a1_1)))))) = some r := by rw [if_pos rfl] at H; exact H
   clear H
   have H := H1
   clear H1
   replace H := Option.bind_eq_some_iff.mp H
   obtain ⟨⟨t960, t961⟩, A600, H⟩ := H
   replace H : ((laws_markIntS.f kj21 t940 t960).bind fun bt962 => (if bt962.1 < 0 then (laws_FnExactWalkOfNumbers.j1 kj21 l2 t930 t933 t945 true a0_0 a0_1 l0_2 a1_0 a1_1) else ((laws_eqIntS.f kj21 t945 t930).bind fun t964 => (if t964 = true then (laws_FnExactWalkOfNumbers.j1 kj21 l2 t930 t933 t945 (t948 != t933) a0_0 a0_1 l0_2 a1_0 a1_1) else (laws_FnExactWalkOfNumbers.j1 kj21 l2 t930 t933 t945 true a0_0 a0_1 l0_2 a1_0 a1_1))))) = some r := H
   have A60 := Aside0.mk A600
   clear A600
   replace H := Option.bind_eq_some_iff.mp H
   obtain ⟨⟨t962, t963⟩, A610, H⟩ := H
   replace H : (if t962 < 0 then (laws_FnExactWalkOfNumbers.j1 kj21 l2 t930 t933 t945 true a0_0 a0_1 l0_2 a1_0 a1_1) else ((laws_eqIntS.f kj21 t945 t930).bind fun t964 => (if t964 = true then (laws_FnExactWalkOfNumbers.j1 kj21 l2 t930 t933 t945 (t948 != t933) a0_0 a0_1 l0_2 a1_0 a1_1) else (laws_FnExactWalkOfNumbers.j1 kj21 l2 t930 t933 t945 true a0_0 a0_1 l0_2 a1_0 a1_1)))) = some r := H
   have A61 := Aside0.mk A610
   clear A610
   have HC62 := Aside0.mk H
   clear H
   try go_wp2
   have n0_ := Aside0.mk (Kd.R_drew HO_8.out)
   have n1_ := Aside0.mk (Kd.R_drew HO_11.out)
   have n2_ := Aside0.mk (Kd.R_drew HO_12.out)
   have n3_ := Aside0.mk (Kd.R_drew HO_940002.out)
   have n4_ := Aside0.mk (blk_drew BK917.out)
   have n5_ := Aside0.mk (blk_drew BK918.out)
   have n6_ := Aside0.mk (blk_drew BK939.out)
   have n7_ := Aside0.mk (below_drew1 HB.out)
   clear HO_8
   clear HO_11
   clear HO_12
   clear HO_940002
   clear BK917
   clear BK918
   clear BK939
   clear HB
   have HO_8 := n0_
   have HO_11 := n1_
   have HO_12 := n2_
   have HO_940002 := n3_
   have BK917 := n4_
   have BK918 := n5_
   have BK939 := n6_
   have HB := n7_
   clear n0_ n1_ n2_ n3_ n4_ n5_ n6_ n7_
   refine start_ (n := 5) (S := fun w' => w'.cell? ⟨gb939, 0, none⟩ = some (.int .i64 t934) ∧ w'.cell? ⟨gb939, 1, none⟩ = some (.int .i64 t935) ∧ w'.cell? ⟨gb939, 2, none⟩ = some (.slice Ao41 t936.length co41) ∧ w'.cell? ⟨gb917, 0, none⟩ = some (.int .i64 a0_0) ∧ w'.cell? ⟨gb917, 1, none⟩ = some (.int .i64 a0_1) ∧ w'.cell? ⟨gb917, 2, none⟩ = some (.slice A0_2 l0_2.length c0_2)) (ds := []) #[false, false, false, false, false] (by kernel_rfl) rfl rfl ⟨(blk_cell BK939.out 0).trans rfl, (blk_cell BK939.out 1).trans rfl, (blk_cell BK939.out 2).trans rfl, (blk_cell BK917.out 0).trans rfl, (blk_cell BK917.out 1).trans rfl, (blk_cell BK917.out 2).trans rfl⟩ (fun hHeld => ?_)
   generalize wc.drew = w63 at HO_8 HO_11 HO_12 HO_940002 BK917 BK918 BK939 HB hHeld ⊢
   refine take_ (i := 0) (N := some 58) (v := ?_) (a' := ?_) #[true, false, false, false, false] rfl rfl (by kernel_rfl) (fun _ _ _ h => h) (Or.inl ⟨by rfl, ?_⟩) hHeld ?_ ?_
   rotate_left
   ·rintro w' ⟨s0, s1, s2, s3, s4, s5⟩
    go_simp
    with_reducible rfl
   rotate_left
   ·simp only [Act.put, List.setIfInBounds_toArray, List.set_cons_zero, List.set_cons_succ, i64_w, i32_w]
    rfl
   refine take_ (i := 1) (N := some 59) (v := ?_) (a' := ?_) #[true, true, false, false, false] rfl rfl (by kernel_rfl) (fun _ _ _ h => h) (Or.inl ⟨by rfl, ?_⟩) hHeld ?_ ?_
   rotate_left
   ·rintro w' ⟨s0, s1, s2, s3, s4, s5⟩
    go_simp
    with_reducible rfl
   rotate_left
   ·simp only [Act.put, List.setIfInBounds_toArray, List.set_cons_zero, List.set_cons_succ, i64_w, i32_w]
    rfl
   refine one_ (i := 2) (N := some 60) #[true, true, true, false, false] rfl rfl (by kernel_rfl) (by decide) (fun K hK => ?_)
   refine goes_ Try.func17 (by kernel_rfl) rfl #[.agg #[.int .i64 a0_0, .int .i64 a0_1, .slice A0_2 l0_2.length c0_2]] (by rfl) rfl rfl zai3 ?_
   with_reducible refine (laws_toBoard.calls kj21 a0_0 a0_1 _ _ l0_2 t950 t951 t952 _ ?side1 ?side2 A54.out).mono ?_
   (case side1 => exact zai13)
   (case side2 => exact HC0_2.out)
   rintro e w64 ⟨v953, rfl, ho0, hb⟩
   refine ⟨_, rfl, ?_⟩
   have n0_ := Aside0.mk (Kd.R_elder' zai10 (Kd.R_base ho0) hb)
   have n1_ := Aside0.mk (Kd.R_elder' zai12 (Kd.R_base ho0) hb)
   have n2_ := Aside0.mk (Kd.R_elder' zai9 (Kd.R_base ho0) hb)
   have n3_ := Aside0.mk (Kd.R_elder' zai8 (Kd.R_base ho0) hb)
   have n4_ := Aside0.mk (Kd.R_lower (Kd.R_new' (Kd.R_new' (Kd.R_new' (Kd.R_new' ho0 (Kd.R_lt zai10)) (Kd.R_lt zai12)) (Kd.R_lt zai9)) (Kd.R_lt zai8)) (below_size zai1))
   have n5_ := Aside0.mk (blk_below (g := gb917) (o := .cells #[.int .i64 a0_0, .int .i64 a0_1, .slice A0_2 l0_2.length c0_2] 24 (0, 0)) zai2 hb)
   have n6_ := Aside0.mk (blk_below (g := gb918) (o := .cells #[.int .i64 a1_0, .int .i64 a1_1] 26 (0, 0)) zai4 hb)
   have n7_ := Aside0.mk (blk_below (g := gb939) (o := .cells #[.int .i64 t934, .int .i64 t935, .slice Ao41 t936.length co41] 30 (0, 0)) zai7 hb)
   have n8_ := Aside0.mk (below_step zai1 hb)
   clear HO_8
   clear HO_11
   clear HO_12
   clear HO_940002
   clear BK917
   clear BK918
   clear BK939
   clear HB
   have HO_8 := n0_
   have HO_11 := n1_
   have HO_12 := n2_
   have HO_940002 := n3_
   have HO954 := n4_
   have BK917 := n5_
   have BK918 := n6_
   have BK939 := n7_
   have HB := n8_
   clear n0_ n1_ n2_ n3_ n4_ n5_ n6_ n7_ n8_
   (try clear hb)
   (try clear hb2)
   (try clear hk)
   (try clear hi)
   (try clear ho0)
   (try clear hna_)
   (try clear hnb_)
   obtain ⟨Ao65, co65, eo65⟩ := Kd.R_slice HO954.out
   (first | subst eo65 | (injection eo65 with f1_ f2_ f3_; have f4_ := f1_.symm; have f5_ := f3_.symm; clear f1_ f2_ f3_; subst f4_; subst f5_))
   refine hK.out _ _ ⟨(blk_cell BK939.out 0).trans rfl, (blk_cell BK939.out 1).trans rfl, (blk_cell BK939.out 2).trans rfl, (blk_cell BK917.out 0).trans rfl, (blk_cell BK917.out 1).trans rfl, (blk_cell BK917.out 2).trans rfl⟩ (fun hHeld => ?_)
   clear hK K
   refine norm_ (a' := ?_) ?_ ?_
   rotate_left
   ·show Act.put _ (some 60) _ = _
    simp only [Act.put, List.setIfInBounds_toArray, List.set_cons_zero, List.set_cons_succ, i64_w, i32_w]
    rfl
   refine one_ (i := 3) (N := some 61) #[true, true, true, true, false] rfl rfl (by kernel_rfl) (by decide) (fun K hK => ?_)
   refine goes_ Try.func22 (by kernel_rfl) rfl #[.agg #[.int .i64 t934, .int .i64 t935, .slice Ao41 t936.length co41], .agg #[.int .i64 t950, .int .i64 t951, .slice Ao65 t952.length co65]] (by rfl) rfl rfl zai3 ?_
   with_reducible refine (laws_eqBoard.calls kj21 t934 t935 _ _ t936 t950 t951 _ _ t952 true _ ?side1 ?side2 ?side3 ?side4 A55.out).mono ?_
   (case side1 => exact zai29)
   (case side2 => exact (Kd.R_reads' HO_940002.out).2.1)
   (case side3 => exact zai30)
   (case side4 => exact (Kd.R_reads' HO954.out).2.1)
   rintro e w66 ⟨rfl, hb⟩
   refine ⟨_, rfl, ?_⟩
   have n0_ := Aside0.mk (Kd.R_below zai10 hb)
   have n1_ := Aside0.mk (Kd.R_below zai12 hb)
   have n2_ := Aside0.mk (Kd.R_below zai9 hb)
   have n3_ := Aside0.mk (Kd.R_below zai8 hb)
   have n4_ := Aside0.mk (Kd.R_below zai19 hb)
   have n5_ := Aside0.mk (blk_below (g := gb917) (o := .cells #[.int .i64 a0_0, .int .i64 a0_1, .slice A0_2 l0_2.length c0_2] 24 (0, 0)) zai2 hb)
   have n6_ := Aside0.mk (blk_below (g := gb918) (o := .cells #[.int .i64 a1_0, .int .i64 a1_1] 26 (0, 0)) zai4 hb)
   have n7_ := Aside0.mk (blk_below (g := gb939) (o := .cells #[.int .i64 t934, .int .i64 t935, .slice Ao41 t936.length co41] 30 (0, 0)) zai7 hb)
   have n8_ := Aside0.mk (below_step zai1 hb)
   clear HO_8
   clear HO_11
   clear HO_12
   clear HO_940002
   clear HO954
   clear BK917
   clear BK918
   clear BK939
   clear HB
   have HO_8 := n0_
   have HO_11 := n1_
   have HO_12 := n2_
   have HO_940002 := n3_
   have HO954 := n4_
   have BK917 := n5_
   have BK918 := n6_
   have BK939 := n7_
   have HB := n8_
   clear n0_ n1_ n2_ n3_ n4_ n5_ n6_ n7_ n8_
   (try clear hb)
   (try clear hb2)
   (try clear hk)
   (try clear hi)
   (try clear hna_)
   (try clear hnb_)
   refine hK.out _ _ ⟨(blk_cell BK939.out 0).trans rfl, (blk_cell BK939.out 1).trans rfl, (blk_cell BK939.out 2).trans rfl, (blk_cell BK917.out 0).trans rfl, (blk_cell BK917.out 1).trans rfl, (blk_cell BK917.out 2).trans rfl⟩ (fun hHeld => ?_)
   clear hK K
   refine norm_ (a' := ?_) ?_ ?_
   rotate_left
   ·show Act.put _ (some 61) _ = _
    simp only [Act.put, List.setIfInBounds_toArray, List.set_cons_zero, List.set_cons_succ, i64_w, i32_w]
    rfl
   refine pure_ (i := 4) (N := some 62) (v := ?_) (a' := ?_) #[true, true, true, true, true] rfl rfl (by kernel_rfl) (fun _ _ _ h => h) (Or.inl ⟨by rfl, ?_⟩) ?_ ?_
   rotate_left
   ·intro w'
    go_simp
    with_reducible rfl
   rotate_left
   ·simp only [Act.put, List.setIfInBounds_toArray, List.set_cons_zero, List.set_cons_succ, i64_w, i32_w]
    rfl
   refine done_ (by kernel_rfl) ?_
   go_upto_region 20 with (first | ((with_reducible refine gate_callee (f := 19) rfl ?_); refine goesL_ (some 65) rfl rfl Try.func19 (by kernel_rfl) rfl #[.slice A2 l2.length c2] rfl zai3 ?_; (with_reducible refine (laws_toIntS.calls kj21 _ _ l2 t956 _ ?side1 ?side2 A57.out).mono ?_); (case side1 => exact zai21); (case side2 => exact HC2.out); rintro e w67 ⟨v957, rfl, ho0, hb⟩; refine ⟨_, rfl, ?_⟩; have n0_ := Aside0.mk (Kd.R_elder' zai10 (Kd.R_base ho0) hb); have n1_ := Aside0.mk (Kd.R_elder' zai12 (Kd.R_base ho0) hb); have n2_ := Aside0.mk (Kd.R_elder' zai9 (Kd.R_base ho0) hb); have n3_ := Aside0.mk (Kd.R_elder' zai8 (Kd.R_base ho0) hb); have n4_ := Aside0.mk (Kd.R_elder' zai19 (Kd.R_base ho0) hb); have n5_ := Aside0.mk (Kd.R_lower (Kd.R_new' (Kd.R_new' (Kd.R_new' (Kd.R_new' (Kd.R_new' ho0 (Kd.R_lt zai10)) (Kd.R_lt zai12)) (Kd.R_lt zai9)) (Kd.R_lt zai8)) (Kd.R_lt zai19)) (below_size zai1)); have n6_ := Aside0.mk (blk_below (g := gb917) (o := .cells #[.int .i64 a0_0, .int .i64 a0_1, .slice A0_2 l0_2.length c0_2] 24 (0, 0)) zai2 hb); have n7_ := Aside0.mk (blk_below (g := gb918) (o := .cells #[.int .i64 a1_0, .int .i64 a1_1] 26 (0, 0)) zai4 hb); have n8_ := Aside0.mk (blk_below (g := gb939) (o := .cells #[.int .i64 t934, .int .i64 t935, .slice Ao41 t936.length co41] 30 (0, 0)) zai7 hb); have n9_ := Aside0.mk (below_step zai1 hb); clear HO_8; clear HO_11; clear HO_12; clear HO_940002; clear HO954; clear BK917; clear BK918; clear BK939; clear HB; have HO_8 := n0_; have HO_11 := n1_; have HO_12 := n2_; have HO_940002 := n3_; have HO954 := n4_; have HO958 := n5_; have BK917 := n6_; have BK918 := n7_; have BK939 := n8_; have HB := n9_; clear n0_ n1_ n2_ n3_ n4_ n5_ n6_ n7_ n8_ n9_; (try clear hb); (try clear hb2); (try clear hk); (try clear hi); (try clear ho0); (try clear hna_); (try clear hnb_); obtain ⟨Ao68, co68, eo68⟩ := Kd.R_slice HO958.out; subst eo68) | ((with_reducible refine gate_callee (f := 21) rfl ?_); refine goesL_ (some 66) rfl rfl Try.func21 (by kernel_rfl) rfl #[.slice Ao45 t940.length co45, .slice Ao68 t956.length co68] rfl zai3 ?_; (with_reducible refine (laws_eqIntS.calls kj21 _ _ t940 _ _ t956 true _ ?side1 ?side2 ?side3 ?side4 A58.out).mono ?_); (case side1 => exact zai44); (case side2 => exact (Kd.R_reads' HO_11.out).2.1); (case side3 => exact zai46); (case side4 => exact (Kd.R_reads' HO958.out).2.1); rintro e w' ⟨rfl, ⟨nd, rfl⟩⟩; refine ⟨_, rfl, ?_⟩; have hnb69 := NB939_917.out; have hnc69 := NB917_939.out; have hnb70 := NB939_918.out; have hnc70 := NB918_939.out; have hcz71_0 : w67.cell? ⟨gb939, 0, none⟩ = some (.int .i64 t934) := (blk_cell BK939.out 0).trans rfl; have hcz71_1 : w67.cell? ⟨gb939, 1, none⟩ = some (.int .i64 t935) := (blk_cell BK939.out 1).trans rfl; have hcz71_2 : w67.cell? ⟨gb939, 2, none⟩ = some (.slice Ao41 t936.length co41) := (blk_cell BK939.out 2).trans rfl; have hfz71_0 := blk_frozen BK939.out 0; have hfz71_1 := blk_frozen BK939.out 1; have hfz71_2 := blk_frozen BK939.out 2) | ((with_reducible refine gate_callee (f := 23) rfl ?_); refine goesL_ (some 70) rfl rfl Try.func23 (by kernel_rfl) rfl #[.agg #[.int .i64 t934, .int .i64 t935, .slice Ao41 t936.length co41], .int .i64 1] rfl zai3 ?_; (with_reducible refine (laws_markBoard.calls kj21 t934 t935 (fun k_ => some k_ = (.slice Ao41 t936.length co41 : Value).ownBlock) (.slice Ao41 t936.length co41) t936 1 t960 t961 w _ ?side1 ?side2 A60.out).mono ?_); (case side1 => exact zai1); (case side2 => exact Kd.R_tight rfl HO_940002.out); rintro e w72 ⟨rfl, hy0, hb, hkp⟩; refine ⟨_, rfl, ?_⟩; have n0_ := Aside0.mk (Kd.R_mono (ok' := fun k_ => some k_ ≠ (.slice Ao45 t940.length co45 : Value).ownBlock ∧ some k_ ≠ (v946 : Value).ownBlock ∧ some k_ ≠ (.slice Ao41 t936.length co41 : Value).ownBlock ∧ some k_ ≠ (.slice Ao65 t952.length co65 : Value).ownBlock ∧ some k_ ≠ (.slice Ao68 t956.length co68 : Value).ownBlock) (Kd.R_keptB (HO_8.out) hkp (fun k_ hk_ hs_ => (hk_.1.1.2.2) hs_)) (fun k_ hk_ => ⟨hk_.1.1.1.1, hk_.1.1.1.2.1, hk_.1.1.1.2.2, hk_.1.1.2, hk_.1.2⟩)); have n1_ := Aside0.mk (Kd.R_mono (ok' := fun k_ => some k_ ≠ (v931 : Value).ownBlock ∧ some k_ ≠ (v946 : Value).ownBlock ∧ some k_ ≠ (.slice Ao41 t936.length co41 : Value).ownBlock ∧ some k_ ≠ (.slice Ao65 t952.length co65 : Value).ownBlock ∧ some k_ ≠ (.slice Ao68 t956.length co68 : Value).ownBlock) (Kd.R_keptB (HO_11.out) hkp (fun k_ hk_ hs_ => (hk_.1.1.2.2) hs_)) (fun k_ hk_ => ⟨hk_.1.1.1.1, hk_.1.1.1.2.1, hk_.1.1.1.2.2, hk_.1.1.2, hk_.1.2⟩)); have n2_ := Aside0.mk (Kd.R_mono (ok' := fun k_ => some k_ ≠ (v931 : Value).ownBlock ∧ some k_ ≠ (.slice Ao45 t940.length co45 : Value).ownBlock ∧ some k_ ≠ (.slice Ao41 t936.length co41 : Value).ownBlock ∧ some k_ ≠ (.slice Ao65 t952.length co65 : Value).ownBlock ∧ some k_ ≠ (.slice Ao68 t956.length co68 : Value).ownBlock) (Kd.R_keptB (HO_12.out) hkp (fun k_ hk_ hs_ => (hk_.1.1.2.2) hs_)) (fun k_ hk_ => ⟨hk_.1.1.1.1, hk_.1.1.1.2.1, hk_.1.1.1.2.2, hk_.1.1.2, hk_.1.2⟩)); have n3_ := Aside0.mk (Kd.R_reok rfl hy0 (fun k_ e_ => HO_940002.out.1 k_ e_)); have n4_ := Aside0.mk (blk_kept zai2 hkp (fun hs_ => (fun e_ => (Kd.R_ne HO_940002.out BK917.out (by decide)) e_) hs_)); have n5_ := Aside0.mk (blk_kept zai4 hkp (fun hs_ => (fun e_ => (Kd.R_ne HO_940002.out BK918.out (by decide)) e_) hs_)); have n6_ := Aside0.mk (blk_kept zai7 hkp (fun hs_ => (fun e_ => (Kd.R_ne HO_940002.out BK939.out (by decide)) e_) hs_)); have n7_ := Aside0.mk (Kd.R_mono (ok' := fun k_ => some k_ ≠ (v931 : Value).ownBlock ∧ some k_ ≠ (.slice Ao45 t940.length co45 : Value).ownBlock ∧ some k_ ≠ (v946 : Value).ownBlock ∧ some k_ ≠ (.slice Ao41 t936.length co41 : Value).ownBlock ∧ some k_ ≠ (.slice Ao68 t956.length co68 : Value).ownBlock) (Kd.R_keptB (HO954.out) hkp (fun k_ hk_ hs_ => (hk_.1.2) hs_)) (fun k_ hk_ => ⟨hk_.1.1.1.1.1.2, hk_.1.1.1.1.2, hk_.1.1.1.2, hk_.1.1.2, hk_.1.2⟩)); have n8_ := Aside0.mk (Kd.R_mono (ok' := fun k_ => some k_ ≠ (v931 : Value).ownBlock ∧ some k_ ≠ (.slice Ao45 t940.length co45 : Value).ownBlock ∧ some k_ ≠ (v946 : Value).ownBlock ∧ some k_ ≠ (.slice Ao41 t936.length co41 : Value).ownBlock ∧ some k_ ≠ (.slice Ao65 t952.length co65 : Value).ownBlock) (Kd.R_keptB (HO958.out) hkp (fun k_ hk_ hs_ => (hk_.1.2) hs_)) (fun k_ hk_ => ⟨hk_.1.1.1.1.1.2, hk_.1.1.1.1.2, hk_.1.1.1.2, hk_.1.1.2, hk_.1.2⟩)); have n9_ := Aside0.mk (hb); clear HO_8; clear HO_11; clear HO_12; clear HO_940002; clear BK917; clear BK918; clear BK939; clear HO954; clear HO958; clear HB; have HO_8 := n0_; have HO_11 := n1_; have HO_12 := n2_; have HO_940002 := n3_; have BK917 := n4_; have BK918 := n5_; have BK939 := n6_; have HO954 := n7_; have HO958 := n8_; have HB := n9_; clear n0_ n1_ n2_ n3_ n4_ n5_ n6_ n7_ n8_ n9_; (try clear hb); (try clear hkp); (try clear hy0)) | ((with_reducible refine gate_callee (f := 24) rfl ?_); refine goesL_ (some 73) rfl rfl Try.func24 (by kernel_rfl) rfl #[.slice Ao45 t940.length co45, .int .i64 t960] rfl zai3 ?_; (with_reducible refine (laws_markIntS.calls kj21 (fun k_ => some k_ = (.slice Ao45 t940.length co45 : Value).ownBlock) (.slice Ao45 t940.length co45) t940 t960 t962 t963 w _ ?side1 ?side2 A61.out).mono ?_); (case side1 => exact zai1); (case side2 => exact Kd.R_tight rfl HO_11.out); rintro e w73 ⟨rfl, hy0, hb, hkp⟩; refine ⟨_, rfl, ?_⟩; have n0_ := Aside0.mk (Kd.R_mono (ok' := fun k_ => some k_ ≠ (.slice Ao45 t940.length co45 : Value).ownBlock ∧ some k_ ≠ (v946 : Value).ownBlock ∧ some k_ ≠ (.slice Ao41 t936.length co41 : Value).ownBlock ∧ some k_ ≠ (.slice Ao65 t952.length co65 : Value).ownBlock ∧ some k_ ≠ (.slice Ao68 t956.length co68 : Value).ownBlock) (Kd.R_keptB (HO_8.out) hkp (fun k_ hk_ hs_ => (hk_.1) hs_)) (fun k_ hk_ => ⟨hk_.1.1, hk_.1.2.1, hk_.1.2.2.1, hk_.1.2.2.2.1, hk_.1.2.2.2.2⟩)); have n1_ := Aside0.mk (Kd.R_reok rfl hy0 (fun k_ e_ => HO_11.out.1 k_ e_)); have n2_ := Aside0.mk (Kd.R_mono (ok' := fun k_ => some k_ ≠ (v931 : Value).ownBlock ∧ some k_ ≠ (.slice Ao45 t940.length co45 : Value).ownBlock ∧ some k_ ≠ (.slice Ao41 t936.length co41 : Value).ownBlock ∧ some k_ ≠ (.slice Ao65 t952.length co65 : Value).ownBlock ∧ some k_ ≠ (.slice Ao68 t956.length co68 : Value).ownBlock) (Kd.R_keptB (HO_12.out) hkp (fun k_ hk_ hs_ => (hk_.2.1) hs_)) (fun k_ hk_ => ⟨hk_.1.1, hk_.1.2.1, hk_.1.2.2.1, hk_.1.2.2.2.1, hk_.1.2.2.2.2⟩)); have n3_ := Aside0.mk (Kd.R_mono (ok' := fun k_ => some k_ ≠ (v931 : Value).ownBlock ∧ some k_ ≠ (.slice Ao45 t940.length co45 : Value).ownBlock ∧ some k_ ≠ (v946 : Value).ownBlock ∧ some k_ ≠ (.slice Ao65 t952.length co65 : Value).ownBlock ∧ some k_ ≠ (.slice Ao68 t956.length co68 : Value).ownBlock) (Kd.R_keptB (HO_940002.out) hkp (fun k_ hk_ hs_ => (hk_.1.1.2.1) hs_)) (fun k_ hk_ => ⟨hk_.1.1.1.1, hk_.1.1.1.2.1, hk_.1.1.1.2.2, hk_.1.1.2, hk_.1.2⟩)); have n4_ := Aside0.mk (blk_kept zai2 hkp (fun hs_ => (fun e_ => (Kd.R_ne HO_11.out BK917.out (by decide)) e_) hs_)); have n5_ := Aside0.mk (blk_kept zai4 hkp (fun hs_ => (fun e_ => (Kd.R_ne HO_11.out BK918.out (by decide)) e_) hs_)); have n6_ := Aside0.mk (blk_kept zai7 hkp (fun hs_ => (fun e_ => (Kd.R_ne HO_11.out BK939.out (by decide)) e_) hs_)); have n7_ := Aside0.mk (Kd.R_mono (ok' := fun k_ => some k_ ≠ (v931 : Value).ownBlock ∧ some k_ ≠ (.slice Ao45 t940.length co45 : Value).ownBlock ∧ some k_ ≠ (v946 : Value).ownBlock ∧ some k_ ≠ (.slice Ao41 t936.length co41 : Value).ownBlock ∧ some k_ ≠ (.slice Ao68 t956.length co68 : Value).ownBlock) (Kd.R_keptB (HO954.out) hkp (fun k_ hk_ hs_ => (hk_.2.1) hs_)) (fun k_ hk_ => ⟨hk_.1.1, hk_.1.2.1, hk_.1.2.2.1, hk_.1.2.2.2.1, hk_.1.2.2.2.2⟩)); have n8_ := Aside0.mk (Kd.R_mono (ok' := fun k_ => some k_ ≠ (v931 : Value).ownBlock ∧ some k_ ≠ (.slice Ao45 t940.length co45 : Value).ownBlock ∧ some k_ ≠ (v946 : Value).ownBlock ∧ some k_ ≠ (.slice Ao41 t936.length co41 : Value).ownBlock ∧ some k_ ≠ (.slice Ao65 t952.length co65 : Value).ownBlock) (Kd.R_keptB (HO958.out) hkp (fun k_ hk_ hs_ => (hk_.2.1) hs_)) (fun k_ hk_ => ⟨hk_.1.1, hk_.1.2.1, hk_.1.2.2.1, hk_.1.2.2.2.1, hk_.1.2.2.2.2⟩)); have n9_ := Aside0.mk (hb); clear HO_8; clear HO_11; clear HO_12; clear HO_940002; clear BK917; clear BK918; clear BK939; clear HO954; clear HO958; clear HB; have HO_8 := n0_; have HO_11 := n1_; have HO_12 := n2_; have HO_940002 := n3_; have BK917 := n4_; have BK918 := n5_; have BK939 := n6_; have HO954 := n7_; have HO958 := n8_; have HB := n9_; clear n0_ n1_ n2_ n3_ n4_ n5_ n6_ n7_ n8_ n9_; (try clear hb); (try clear hkp); (try clear hy0)))
   (try simp only [Act.put, List.setIfInBounds_toArray, List.set_cons_zero, List.set_cons_succ])
   go_cut [86] (fun v86 wc => ∃ (kq : Nat) (x86_61 : Bool), v86 = .bool x86_61 ∧ Aside0 (laws_FnExactWalkOfNumbers.j1 kq l2 t930 t933 t945 x86_61 a0_0 a0_1 l0_2 a1_0 a1_1 = some r) ∧ Aside0 (kq ≤ kj21) ∧ Aside0 (Kd.R (Kd.int .i64) 3 wc w.heap.size (fun k_ => some k_ ≠ (v946 : Value).ownBlock ∧ some k_ ≠ ((.slice Ao41 t936.length co41) : Value).ownBlock) v931 t930) ∧ Aside0 (Kd.R (Kd.int .i64) 3 wc w.heap.size (fun k_ => some k_ ≠ (v931 : Value).ownBlock ∧ some k_ ≠ ((.slice Ao41 t936.length co41) : Value).ownBlock) v946 t945) ∧ Aside0 (Kd.R (Kd.int .i64) 3 wc w.heap.size (fun k_ => some k_ ≠ (v931 : Value).ownBlock ∧ some k_ ≠ (v946 : Value).ownBlock) (.slice Ao41 t936.length co41) t961) ∧ Aside0 (wc.heap[gb917]? = some (.cells #[.int .i64 a0_0, .int .i64 a0_1, (.slice A0_2 l0_2.length c0_2)] 24 (0, 0))) ∧ Aside0 (wc.heap[gb918]? = some (.cells #[.int .i64 a1_0, .int .i64 a1_1] 26 (0, 0))) ∧ Aside0 (wc.heap[gb939]? = some (.cells #[.int .i64 t934, .int .i64 t935, (.slice Ao41 t936.length co41)] 30 (0, 0))) ∧ Aside0 (Below w.heap.size w wc))
   case first =>
    have H := HC62.out
    clear HC62
    by_cases c74 : t962 < 0
    ·rw [if_pos c74] at H
     have c74b0 : decide (t962 < 0) = true := decide_eq_true c74
     clear c74
     (first | rw [c74b0] | (simp only [i64_w, i32_w]; rw [c74b0]) | skip)
     have H' := Aside0.mk H
     clear H
     go_wp2
     go_meet
     case rel => exact ⟨_, (true), zai35, H', ⟨by have := HJ21.out; first | omega | exact Nat.le_refl _⟩, ⟨zai33⟩, ⟨zai34⟩, ⟨zai32⟩, ⟨zai2⟩, ⟨zai4⟩, ⟨zai7⟩, ⟨zai1⟩⟩
    rw [if_neg c74] at H
    have c74b0 : decide (t962 < 0) = false := decide_eq_false c74
    clear c74
    (first | rw [c74b0] | (simp only [i64_w, i32_w]; rw [c74b0]) | skip)
    replace H := Option.bind_eq_some_iff.mp H
    obtain ⟨t964, A750, H⟩ := H
    replace H : (if t964 = true then (laws_FnExactWalkOfNumbers.j1 kj21 l2 t930 t933 t945 (t948 != t933) a0_0 a0_1 l0_2 a1_0 a1_1) else (laws_FnExactWalkOfNumbers.j1 kj21 l2 t930 t933 t945 true a0_0 a0_1 l0_2 a1_0 a1_1)) = some r := H
    have A75 := Aside0.mk A750
    clear A750
    by_cases c76 : t964 = true
    ·subst c76
     have H1 : (laws_FnExactWalkOfNumbers.j1 kj21 l2 t930 t933 t945 (t948 != t933) a0_0 a0_1 l0_2 a1_0 a1_1) = some r := by rw [if_pos rfl] at H; exact H
     clear H
     have H := H1
     clear H1
     have H' := Aside0.mk H
     clear H
     obtain ⟨Ao77, co77, eo77⟩ := Kd.R_slice HO_12.out
     subst eo77
     obtain ⟨Ao78, co78, eo78⟩ := Kd.R_slice HO_8.out
     subst eo78
     go_wp2_with (first | (go_at_call 21; (with_reducible refine (laws_eqIntS.calls kj21 _ _ t945 _ _ t930 true _ ?side1 ?side2 ?side3 ?side4 A75.out).mono ?_); (case side1 => exact zai14); (case side2 => exact (Kd.R_reads' HO_12.out).2.1); (case side3 => exact zai22); (case side4 => exact (Kd.R_reads' HO_8.out).2.1); rintro e w' ⟨rfl, ⟨nd, rfl⟩⟩))
     go_meet
     case rel => exact ⟨_, ((t948 != t933)), zai35, H', ⟨by have := HJ21.out; first | omega | exact Nat.le_refl _⟩, ⟨zai33⟩, ⟨zai34⟩, ⟨zai32⟩, ⟨zai2⟩, ⟨zai4⟩, ⟨zai7⟩, ⟨zai1⟩⟩
    replace c76 := Bool.eq_false_iff.mpr c76
    subst c76
    have H1 : (laws_FnExactWalkOfNumbers.j1 kj21 l2 t930 t933 t945 true a0_0 a0_1 l0_2 a1_0 a1_1) = some r := by rw [if_neg (show ¬ (false = true) by decide)] at H; exact H
    clear H
    have H := H1
    clear H1
    have H' := Aside0.mk H
    clear H
    obtain ⟨Ao79, co79, eo79⟩ := Kd.R_slice HO_12.out
    subst eo79
    obtain ⟨Ao80, co80, eo80⟩ := Kd.R_slice HO_8.out
    subst eo80
    go_wp2_with (first | (go_at_call 21; (with_reducible refine (laws_eqIntS.calls kj21 _ _ t945 _ _ t930 false _ ?side1 ?side2 ?side3 ?side4 A75.out).mono ?_); (case side1 => exact zai14); (case side2 => exact (Kd.R_reads' HO_12.out).2.1); (case side3 => exact zai22); (case side4 => exact (Kd.R_reads' HO_8.out).2.1); rintro e w' ⟨rfl, ⟨nd, rfl⟩⟩))
    go_meet
    case rel => exact ⟨_, (true), zai35, H', ⟨by have := HJ21.out; first | omega | exact Nat.le_refl _⟩, ⟨zai33⟩, ⟨zai34⟩, ⟨zai32⟩, ⟨zai2⟩, ⟨zai4⟩, ⟨zai7⟩, ⟨zai1⟩⟩
   case rest =>
    clear HC62
    try clear c1; try clear c2; try clear p2; try clear c3; try clear c4; try clear c4b0; try clear c4b1; try clear c5; try clear c6; try clear c7; try clear c8; try clear c8b0; try clear c9; try clear c11; try clear c15; try clear c17; try clear c18; try clear c19; try clear c21; try clear c22; try clear c23; try clear c24; try clear c25; try clear c36; try clear c37; try clear c38; try clear c39; try clear c48; try clear c53; try clear c56; try clear c59; try clear c69; try clear c70; try clear c74; try clear c74b0; try clear c76; try clear hcz12_0; try clear hcz12_1; try clear hcz12_2; try clear hcz26_0
    try clear hcz26_1; try clear hcz26_2; try clear hcz35_0; try clear hcz35_1; try clear hcz35_2; try clear hcz40_0; try clear hcz40_1; try clear hcz40_2; try clear hcz71_0; try clear hcz71_1; try clear hcz71_2; try clear hfz12_0; try clear hfz12_1; try clear hfz12_2; try clear hfz26_0; try clear hfz26_1; try clear hfz26_2; try clear hfz35_0; try clear hfz35_1; try clear hfz35_2; try clear hfz40_0; try clear hfz40_1; try clear hfz40_2; try clear hfz71_0; try clear hfz71_1; try clear hfz71_2; try clear p2
    obtain ⟨kq, x86_61, rfl, HA, HJ61, HO_8, HO_12, HO_940002, BK917, BK918, BK939, HB⟩ := hcut
    have hl940002_61 := (Kd.R_reads' HO_940002.out).1
    rw [hl940002_61] at HO_940002
    (try simp only [hl940002_61])
    (try simp only [hl940002_61] at BK917)
    (try simp only [hl940002_61] at BK918)
    (try simp only [hl940002_61] at BK939)
    (try simp only [hl940002_61] at HO_8)
    (try simp only [hl940002_61] at HO_12)
    cases kq with
    | zero => exact absurd HA.out (by simp [laws_FnExactWalkOfNumbers.j1])
    | succ kj61 =>
     have H := HA.out
     clear HA
     simp only [laws_FnExactWalkOfNumbers.j1] at H
     by_cases c81 : x86_61 = true
     ·subst c81
      have H1 : (some false) = some r := by rw [if_pos rfl] at H; exact H
      clear H
      have H := H1
      clear H1
      obtain rfl := Option.some.inj H
      go_wp2
      go_ret
      exact ⟨zai17, zai1⟩
     replace c81 := Bool.eq_false_iff.mpr c81
     subst c81
     have H1 : ((laws_markIntS.f kj61 t945 1).bind fun bt965 => ((laws_heldIntS.f kj61 bt965.2 1).bind fun t967 => (if t967 < 0 then (some false) else (if t967 = bt965.1 then ((laws_toBoard.f kj61 a0_0 a0_1 l0_2).bind fun bt968 => ((laws_toLeaper.f a1_0 a1_1).bind fun bt973 => ((laws_toIntS.f kj61 l2).bind fun t975 => ((impl_WalkOfNumbers.f kj61 bt968.1 bt968.2.1 bt968.2.2 bt973.1 bt973.2 t975).bind fun bt978 => ((laws_eqIntS.f kj61 bt978.1 t930).bind fun t982 => (if t982 = true then (laws_FnExactWalkOfNumbers.j2 kj61 bt965.2 bt965.1 (bt978.2 != t933)) else (laws_FnExactWalkOfNumbers.j2 kj61 bt965.2 bt965.1 true))))))) else (some false))))) = some r := by rw [if_neg (show ¬ (false = true) by decide)] at H; exact H
     clear H
     have H := H1
     clear H1
     replace H := Option.bind_eq_some_iff.mp H
     obtain ⟨⟨t965, t966⟩, A820, H⟩ := H
     replace H : ((laws_heldIntS.f kj61 t966 1).bind fun t967 => (if t967 < 0 then (some false) else (if t967 = t965 then ((laws_toBoard.f kj61 a0_0 a0_1 l0_2).bind fun bt968 => ((laws_toLeaper.f a1_0 a1_1).bind fun bt973 => ((laws_toIntS.f kj61 l2).bind fun t975 => ((impl_WalkOfNumbers.f kj61 bt968.1 bt968.2.1 bt968.2.2 bt973.1 bt973.2 t975).bind fun bt978 => ((laws_eqIntS.f kj61 bt978.1 t930).bind fun t982 => (if t982 = true then (laws_FnExactWalkOfNumbers.j2 kj61 t966 t965 (bt978.2 != t933)) else (laws_FnExactWalkOfNumbers.j2 kj61 t966 t965 true))))))) else (some false)))) = some r := H
     have A82 := Aside0.mk A820
     clear A820
     replace H := Option.bind_eq_some_iff.mp H
     obtain ⟨t967, A830, H⟩ := H
     replace H : (if t967 < 0 then (some false) else (if t967 = t965 then ((laws_toBoard.f kj61 a0_0 a0_1 l0_2).bind fun bt968 => ((laws_toLeaper.f a1_0 a1_1).bind fun bt973 => ((laws_toIntS.f kj61 l2).bind fun t975 => ((impl_WalkOfNumbers.f kj61 bt968.1 bt968.2.1 bt968.2.2 bt973.1 bt973.2 t975).bind fun bt978 => ((laws_eqIntS.f kj61 bt978.1 t930).bind fun t982 => (if t982 = true then (laws_FnExactWalkOfNumbers.j2 kj61 t966 t965 (bt978.2 != t933)) else (laws_FnExactWalkOfNumbers.j2 kj61 t966 t965 true))))))) else (some false))) = some r := H
     have A83 := Aside0.mk A830
     clear A830
     by_cases c84 : t967 < 0
     ·rw [if_pos c84] at H
      have c84b0 : decide (t967 < 0) = true := decide_eq_true c84
      clear c84
      obtain rfl := Option.some.inj H
      obtain ⟨Ao85, co85, eo85⟩ := Kd.R_slice HO_12.out
      subst eo85
      go_wp2_with (first | ((with_reducible refine gate_callee (f := 24) rfl ?_); refine goesL_ (some 89) rfl rfl Try.func24 (by kernel_rfl) rfl #[.slice Ao85 t945.length co85, .int .i64 1] rfl zai3 ?_; (with_reducible refine (laws_markIntS.calls kj61 (fun k_ => some k_ = (.slice Ao85 t945.length co85 : Value).ownBlock) (.slice Ao85 t945.length co85) t945 1 t965 t966 w _ ?side1 ?side2 A82.out).mono ?_); (case side1 => exact zai1); (case side2 => exact Kd.R_tight rfl HO_12.out); rintro e w86 ⟨rfl, hy0, hb, hkp⟩; refine ⟨_, rfl, ?_⟩; have n0_ := Aside0.mk (Kd.R_mono (ok' := fun k_ => some k_ ≠ (.slice Ao85 t945.length co85 : Value).ownBlock ∧ some k_ ≠ (.slice Ao41 t961.length co41 : Value).ownBlock) (Kd.R_keptB (HO_8.out) hkp (fun k_ hk_ hs_ => (hk_.1) hs_)) (fun k_ hk_ => ⟨hk_.1.1, hk_.1.2⟩)); have n1_ := Aside0.mk (Kd.R_reok rfl hy0 (fun k_ e_ => HO_12.out.1 k_ e_)); have n2_ := Aside0.mk (Kd.R_mono (ok' := fun k_ => some k_ ≠ (v931 : Value).ownBlock ∧ some k_ ≠ (.slice Ao85 t945.length co85 : Value).ownBlock) (Kd.R_keptB (HO_940002.out) hkp (fun k_ hk_ hs_ => (hk_.2) hs_)) (fun k_ hk_ => ⟨hk_.1.1, hk_.1.2⟩)); have n3_ := Aside0.mk (blk_kept zai2 hkp (fun hs_ => (fun e_ => (Kd.R_ne HO_12.out BK917.out (by decide)) e_) hs_)); have n4_ := Aside0.mk (blk_kept zai4 hkp (fun hs_ => (fun e_ => (Kd.R_ne HO_12.out BK918.out (by decide)) e_) hs_)); have n5_ := Aside0.mk (blk_kept zai7 hkp (fun hs_ => (fun e_ => (Kd.R_ne HO_12.out BK939.out (by decide)) e_) hs_)); have n6_ := Aside0.mk (hb); clear HO_8; clear HO_12; clear HO_940002; clear BK917; clear BK918; clear BK939; clear HB; have HO_8 := n0_; have HO_12 := n1_; have HO_940002 := n2_; have BK917 := n3_; have BK918 := n4_; have BK939 := n5_; have HB := n6_; clear n0_ n1_ n2_ n3_ n4_ n5_ n6_; (try clear hb); (try clear hkp); (try clear hy0)) | ((with_reducible refine gate_callee (f := 25) rfl ?_); refine goesL_ (some 92) rfl rfl Try.func25 (by kernel_rfl) rfl #[.slice Ao85 t966.length co85, .int .i64 1] rfl zai23 ?_; (with_reducible refine (laws_heldIntS.calls kj61 _ _ t966 1 t967 _ ?side1 ?side2 A83.out).mono ?_); (case side1 => exact zai14); (case side2 => exact zai37); rintro e w' ⟨rfl, ⟨nd, rfl⟩⟩; refine ⟨_, rfl, ?_⟩))
      go_ret
      exact ⟨zai17, zai1⟩
     rw [if_neg c84] at H
     have c84b0 : decide (t967 < 0) = false := decide_eq_false c84
     clear c84
     by_cases c87 : t967 = t965
     rotate_left
     ·rw [if_neg c87] at H
      have c87b0 : (t967 == t965) = false := beq_eq_false_iff_ne.mpr c87
      have c87b1 : (t967 != t965) = true := bne_iff_ne.mpr c87
      obtain rfl := Option.some.inj H
      obtain ⟨Ao112, co112, eo112⟩ := Kd.R_slice HO_12.out
      subst eo112
      go_wp2_with (first | ((with_reducible refine gate_callee (f := 24) rfl ?_); refine goesL_ (some 89) rfl rfl Try.func24 (by kernel_rfl) rfl #[.slice Ao112 t945.length co112, .int .i64 1] rfl zai3 ?_; (with_reducible refine (laws_markIntS.calls kj61 (fun k_ => some k_ = (.slice Ao112 t945.length co112 : Value).ownBlock) (.slice Ao112 t945.length co112) t945 1 t965 t966 w _ ?side1 ?side2 A82.out).mono ?_); (case side1 => exact zai1); (case side2 => exact Kd.R_tight rfl HO_12.out); rintro e w113 ⟨rfl, hy0, hb, hkp⟩; refine ⟨_, rfl, ?_⟩; have n0_ := Aside0.mk (Kd.R_mono (ok' := fun k_ => some k_ ≠ (.slice Ao112 t945.length co112 : Value).ownBlock ∧ some k_ ≠ (.slice Ao41 t961.length co41 : Value).ownBlock) (Kd.R_keptB (HO_8.out) hkp (fun k_ hk_ hs_ => (hk_.1) hs_)) (fun k_ hk_ => ⟨hk_.1.1, hk_.1.2⟩)); have n1_ := Aside0.mk (Kd.R_reok rfl hy0 (fun k_ e_ => HO_12.out.1 k_ e_)); have n2_ := Aside0.mk (Kd.R_mono (ok' := fun k_ => some k_ ≠ (v931 : Value).ownBlock ∧ some k_ ≠ (.slice Ao112 t945.length co112 : Value).ownBlock) (Kd.R_keptB (HO_940002.out) hkp (fun k_ hk_ hs_ => (hk_.2) hs_)) (fun k_ hk_ => ⟨hk_.1.1, hk_.1.2⟩)); have n3_ := Aside0.mk (blk_kept zai2 hkp (fun hs_ => (fun e_ => (Kd.R_ne HO_12.out BK917.out (by decide)) e_) hs_)); have n4_ := Aside0.mk (blk_kept zai4 hkp (fun hs_ => (fun e_ => (Kd.R_ne HO_12.out BK918.out (by decide)) e_) hs_)); have n5_ := Aside0.mk (blk_kept zai7 hkp (fun hs_ => (fun e_ => (Kd.R_ne HO_12.out BK939.out (by decide)) e_) hs_)); have n6_ := Aside0.mk (hb); clear HO_8; clear HO_12; clear HO_940002; clear BK917; clear BK918; clear BK939; clear HB; have HO_8 := n0_; have HO_12 := n1_; have HO_940002 := n2_; have BK917 := n3_; have BK918 := n4_; have BK939 := n5_; have HB := n6_; clear n0_ n1_ n2_ n3_ n4_ n5_ n6_; (try clear hb); (try clear hkp); (try clear hy0)) | ((with_reducible refine gate_callee (f := 25) rfl ?_); refine goesL_ (some 92) rfl rfl Try.func25 (by kernel_rfl) rfl #[.slice Ao112 t966.length co112, .int .i64 1] rfl zai23 ?_; (with_reducible refine (laws_heldIntS.calls kj61 _ _ t966 1 t967 _ ?side1 ?side2 A83.out).mono ?_); (case side1 => exact zai14); (case side2 => exact zai37); rintro e w' ⟨rfl, ⟨nd, rfl⟩⟩; refine ⟨_, rfl, ?_⟩))
      go_ret
      exact ⟨zai17, zai1⟩
     rw [if_pos c87] at H
     have c87b0 : (t967 == t965) = true := beq_iff_eq.mpr c87
     have c87b1 : (t967 != t965) = false := bne_eq_false_iff_eq.mpr c87
     clear c87
     replace H := Option.bind_eq_some_iff.mp H
     obtain ⟨⟨t968, t969, t970⟩, A880, H⟩ := H
     replace H : ((laws_toLeaper.f a1_0 a1_1).bind fun bt973 => ((laws_toIntS.f kj61 l2).bind fun t975 => ((impl_WalkOfNumbers.f kj61 t968 t969 t970 bt973.1 bt973.2 t975).bind fun bt978 => ((laws_eqIntS.f kj61 bt978.1 t930).bind fun t982 => (if t982 = true then (laws_FnExactWalkOfNumbers.j2 kj61 t966 t965 (bt978.2 != t933)) else (laws_FnExactWalkOfNumbers.j2 kj61 t966 t965 true)))))) = some r := H
     have A88 := Aside0.mk A880
     clear A880
     replace H := Option.bind_eq_some_iff.mp H
     obtain ⟨⟨t973, t974⟩, A890, H⟩ := H
     replace H : ((laws_toIntS.f kj61 l2).bind fun t975 => ((impl_WalkOfNumbers.f kj61 t968 t969 t970 t973 t974 t975).bind fun bt978 => ((laws_eqIntS.f kj61 bt978.1 t930).bind fun t982 => (if t982 = true then (laws_FnExactWalkOfNumbers.j2 kj61 t966 t965 (bt978.2 != t933)) else (laws_FnExactWalkOfNumbers.j2 kj61 t966 t965 true))))) = some r := H
     have A89 := Aside0.mk A890
     clear A890
     replace H := Option.bind_eq_some_iff.mp H
     obtain ⟨t975, A900, H⟩ := H
     replace H : ((impl_WalkOfNumbers.f kj61 t968 t969 t970 t973 t974 t975).bind fun bt978 => ((laws_eqIntS.f kj61 bt978.1 t930).bind fun t982 => (if t982 = true then (laws_FnExactWalkOfNumbers.j2 kj61 t966 t965 (bt978.2 != t933)) else (laws_FnExactWalkOfNumbers.j2 kj61 t966 t965 true)))) = some r := H
     have A90 := Aside0.mk A900
     clear A900
     replace H := Option.bind_eq_some_iff.mp H
     obtain ⟨⟨t978, t981⟩, A910, H⟩ := H
     replace H : ((laws_eqIntS.f kj61 t978 t930).bind fun t982 => (if t982 = true then (laws_FnExactWalkOfNumbers.j2 kj61 t966 t965 (t981 != t933)) else (laws_FnExactWalkOfNumbers.j2 kj61 t966 t965 true))) = some r := H
     have A91 := Aside0.mk A910
     clear A910
     have HC92 := Aside0.mk H
     clear H
     obtain ⟨Ao93, co93, eo93⟩ := Kd.R_slice HO_12.out
     subst eo93
     try go_wp2_with (first | ((with_reducible refine gate_callee (f := 24) rfl ?_); refine goesL_ (some 89) rfl rfl Try.func24 (by kernel_rfl) rfl #[.slice Ao93 t945.length co93, .int .i64 1] rfl zai3 ?_; (with_reducible refine (laws_markIntS.calls kj61 (fun k_ => some k_ = (.slice Ao93 t945.length co93 : Value).ownBlock) (.slice Ao93 t945.length co93) t945 1 t965 t966 w _ ?side1 ?side2 A82.out).mono ?_); (case side1 => exact zai1); (case side2 => exact Kd.R_tight rfl HO_12.out); rintro e w94 ⟨rfl, hy0, hb, hkp⟩; refine ⟨_, rfl, ?_⟩; have n0_ := Aside0.mk (Kd.R_mono (ok' := fun k_ => some k_ ≠ (.slice Ao93 t945.length co93 : Value).ownBlock ∧ some k_ ≠ (.slice Ao41 t961.length co41 : Value).ownBlock) (Kd.R_keptB (HO_8.out) hkp (fun k_ hk_ hs_ => (hk_.1) hs_)) (fun k_ hk_ => ⟨hk_.1.1, hk_.1.2⟩)); have n1_ := Aside0.mk (Kd.R_reok rfl hy0 (fun k_ e_ => HO_12.out.1 k_ e_)); have n2_ := Aside0.mk (Kd.R_mono (ok' := fun k_ => some k_ ≠ (v931 : Value).ownBlock ∧ some k_ ≠ (.slice Ao93 t945.length co93 : Value).ownBlock) (Kd.R_keptB (HO_940002.out) hkp (fun k_ hk_ hs_ => (hk_.2) hs_)) (fun k_ hk_ => ⟨hk_.1.1, hk_.1.2⟩)); have n3_ := Aside0.mk (blk_kept zai2 hkp (fun hs_ => (fun e_ => (Kd.R_ne HO_12.out BK917.out (by decide)) e_) hs_)); have n4_ := Aside0.mk (blk_kept zai4 hkp (fun hs_ => (fun e_ => (Kd.R_ne HO_12.out BK918.out (by decide)) e_) hs_)); have n5_ := Aside0.mk (blk_kept zai7 hkp (fun hs_ => (fun e_ => (Kd.R_ne HO_12.out BK939.out (by decide)) e_) hs_)); have n6_ := Aside0.mk (hb); clear HO_8; clear HO_12; clear HO_940002; clear BK917; clear BK918; clear BK939; clear HB; have HO_8 := n0_; have HO_12 := n1_; have HO_940002 := n2_; have BK917 := n3_; have BK918 := n4_; have BK939 := n5_; have HB := n6_; clear n0_ n1_ n2_ n3_ n4_ n5_ n6_; (try clear hb); (try clear hkp); (try clear hy0)) | ((with_reducible refine gate_callee (f := 25) rfl ?_); refine goesL_ (some 92) rfl rfl Try.func25 (by kernel_rfl) rfl #[.slice Ao93 t966.length co93, .int .i64 1] rfl zai23 ?_; (with_reducible refine (laws_heldIntS.calls kj61 _ _ t966 1 t967 _ ?side1 ?side2 A83.out).mono ?_); (case side1 => exact zai14); (case side2 => exact zai37); rintro e w' ⟨rfl, ⟨nd, rfl⟩⟩; refine ⟨_, rfl, ?_⟩))
     (try (rw [drewN_self w94]; generalize hq_ : World.drewN w94 _ = w94; have n0_ : Aside0 (Kd.R (Kd.int .i64) 3 w94 w.heap.size (fun k_ => (some k_ ≠ (v931 : Value).ownBlock ∧ some k_ ≠ (.slice Ao41 t961.length co41 : Value).ownBlock)) (.slice Ao93 t945.length co93) t966) := ⟨by rw [← hq_]; exact zai9⟩; have n1_ : Aside0 (Kd.R (Kd.int .i64) 3 w94 w.heap.size (fun k_ => (some k_ ≠ (.slice Ao93 t945.length co93 : Value).ownBlock ∧ some k_ ≠ (.slice Ao41 t961.length co41 : Value).ownBlock)) v931 t930) := ⟨by rw [← hq_]; exact zai10⟩; have n2_ : Aside0 (Kd.R (Kd.int .i64) 3 w94 w.heap.size (fun k_ => (some k_ ≠ (v931 : Value).ownBlock ∧ some k_ ≠ (.slice Ao93 t945.length co93 : Value).ownBlock)) (.slice Ao41 t961.length co41) t961) := ⟨by rw [← hq_]; exact zai8⟩; have n3_ : Aside0 (w94.heap[gb917]? = some (.cells #[.int .i64 a0_0, .int .i64 a0_1, .slice A0_2 l0_2.length c0_2] 24 (0, 0))) := ⟨by rw [← hq_]; exact zai2⟩; have n4_ : Aside0 (w94.heap[gb918]? = some (.cells #[.int .i64 a1_0, .int .i64 a1_1] 26 (0, 0))) := ⟨by rw [← hq_]; exact zai4⟩; have n5_ : Aside0 (w94.heap[gb939]? = some (.cells #[.int .i64 t934, .int .i64 t935, .slice Ao41 t961.length co41] 30 (0, 0))) := ⟨by rw [← hq_]; exact zai7⟩; have n6_ : Aside0 (Below w.heap.size w w94) := ⟨by rw [← hq_]; exact zai1⟩; clear HO_12 HO_8 HO_940002 BK917 BK918 BK939 HB hq_; have HO_12 := n0_; have HO_8 := n1_; have HO_940002 := n2_; have BK917 := n3_; have BK918 := n4_; have BK939 := n5_; have HB := n6_; clear n0_ n1_ n2_ n3_ n4_ n5_ n6_))
     have n0_ := Aside0.mk (Kd.R_drew HO_8.out)
     have n1_ := Aside0.mk (Kd.R_drew HO_12.out)
     have n2_ := Aside0.mk (Kd.R_drew HO_940002.out)
     have n3_ := Aside0.mk (blk_drew BK917.out)
     have n4_ := Aside0.mk (blk_drew BK918.out)
     have n5_ := Aside0.mk (blk_drew BK939.out)
     have n6_ := Aside0.mk (below_drew1 HB.out)
     clear HO_8
     clear HO_12
     clear HO_940002
     clear BK917
     clear BK918
     clear BK939
     clear HB
     have HO_8 := n0_
     have HO_12 := n1_
     have HO_940002 := n2_
     have BK917 := n3_
     have BK918 := n4_
     have BK939 := n5_
     have HB := n6_
     clear n0_ n1_ n2_ n3_ n4_ n5_ n6_
     refine start_ (n := 12) (S := fun w' => w'.cell? ⟨gb917, 0, none⟩ = some (.int .i64 a0_0) ∧ w'.cell? ⟨gb917, 1, none⟩ = some (.int .i64 a0_1) ∧ w'.cell? ⟨gb917, 2, none⟩ = some (.slice A0_2 l0_2.length c0_2) ∧ w'.cell? ⟨gb918, 0, none⟩ = some (.int .i64 a1_0) ∧ w'.cell? ⟨gb918, 1, none⟩ = some (.int .i64 a1_1)) (ds := []) #[false, false, false, false, false, false, false, false, false, false, false, false] (by kernel_rfl) rfl rfl ⟨(blk_cell BK917.out 0).trans rfl, (blk_cell BK917.out 1).trans rfl, (blk_cell BK917.out 2).trans rfl, (blk_cell BK918.out 0).trans rfl, (blk_cell BK918.out 1).trans rfl⟩ (fun hHeld => ?_); refine with_tabW laws_FnExactWalkOfNumbers.tab30 laws_FnExactWalkOfNumbers.bits30 (fun HT_ HW_ => ?_)
     generalize w94.drew = w95 at HO_8 HO_12 HO_940002 BK917 BK918 BK939 HB hHeld ⊢
     refine pure_ (i := 4) (N := some 103) (v := ?_) (a' := ?_) #[false, false, false, false, true, false, false, false, false, false, false, false] rfl rfl (any_of HT_.out (by kernel_rfl)) (fun _ _ _ h => h) (Or.inl ⟨by rfl, ?_⟩) ?_ ?_
     rotate_left
     ·intro w'
      go_simp
      with_reducible rfl
     rotate_left
     ·simp only [Act.put, List.setIfInBounds_toArray, List.set_cons_zero, List.set_cons_succ, i64_w, i32_w]
      rfl
     refine take_ (i := 0) (N := some 99) (v := ?_) (a' := ?_) #[true, false, false, false, true, false, false, false, false, false, false, false] rfl rfl (take_ofW HT_.out HW_.out (by kernel_rfl)) (fun _ _ _ h => h) (Or.inl ⟨by rfl, ?_⟩) hHeld ?_ ?_
     rotate_left
     ·rintro w' ⟨s0, s1, s2, s3, s4⟩
      go_simp
      with_reducible rfl
     rotate_left
     ·simp only [Act.put, List.setIfInBounds_toArray, List.set_cons_zero, List.set_cons_succ, i64_w, i32_w]
      rfl
     refine take_ (i := 2) (N := some 101) (v := ?_) (a' := ?_) #[true, false, true, false, true, false, false, false, false, false, false, false] rfl rfl (take_ofW HT_.out HW_.out (by kernel_rfl)) (fun _ _ _ h => h) (Or.inl ⟨by rfl, ?_⟩) hHeld ?_ ?_
     rotate_left
     ·rintro w' ⟨s0, s1, s2, s3, s4⟩
      go_simp
      with_reducible rfl
     rotate_left
     ·simp only [Act.put, List.setIfInBounds_toArray, List.set_cons_zero, List.set_cons_succ, i64_w, i32_w]
      rfl
     refine one_ (i := 1) (N := some 100) #[true, true, true, false, true, false, false, false, false, false, false, false] rfl rfl (one_of HT_.out (by kernel_rfl)) (by decide) (fun K hK => ?_)
     refine goes_ Try.func17 (by kernel_rfl) rfl #[.agg #[.int .i64 a0_0, .int .i64 a0_1, .slice A0_2 l0_2.length c0_2]] (by rfl) rfl rfl zai3 ?_
     with_reducible refine (laws_toBoard.calls kj61 a0_0 a0_1 _ _ l0_2 t968 t969 t970 _ ?side1 ?side2 A88.out).mono ?_
     (case side1 => exact zai13)
     (case side2 => exact HC0_2.out)
     rintro e w96 ⟨v971, rfl, ho0, hb⟩
     refine ⟨_, rfl, ?_⟩
     have n0_ := Aside0.mk (Kd.R_elder' zai10 (Kd.R_base ho0) hb)
     have n1_ := Aside0.mk (Kd.R_elder' zai9 (Kd.R_base ho0) hb)
     have n2_ := Aside0.mk (Kd.R_elder' zai8 (Kd.R_base ho0) hb)
     have n3_ := Aside0.mk (Kd.R_lower (Kd.R_new' (Kd.R_new' (Kd.R_new' ho0 (Kd.R_lt zai10)) (Kd.R_lt zai9)) (Kd.R_lt zai8)) (below_size zai1))
     have n4_ := Aside0.mk (blk_below (g := gb917) (o := .cells #[.int .i64 a0_0, .int .i64 a0_1, .slice A0_2 l0_2.length c0_2] 24 (0, 0)) zai2 hb)
     have n5_ := Aside0.mk (blk_below (g := gb918) (o := .cells #[.int .i64 a1_0, .int .i64 a1_1] 26 (0, 0)) zai4 hb)
     have n6_ := Aside0.mk (blk_below (g := gb939) (o := .cells #[.int .i64 t934, .int .i64 t935, .slice Ao41 t961.length co41] 30 (0, 0)) zai7 hb)
     have n7_ := Aside0.mk (below_step zai1 hb)
     clear HO_8
     clear HO_12
     clear HO_940002
     clear BK917
     clear BK918
     clear BK939
     clear HB
     have HO_8 := n0_
     have HO_12 := n1_
     have HO_940002 := n2_
     have HO972 := n3_
     have BK917 := n4_
     have BK918 := n5_
     have BK939 := n6_
     have HB := n7_
     clear n0_ n1_ n2_ n3_ n4_ n5_ n6_ n7_
     (try clear hb)
     (try clear hb2)
     (try clear hk)
     (try clear hi)
     (try clear ho0)
     (try clear hna_)
     (try clear hnb_)
     refine hK.out _ _ ⟨(blk_cell BK917.out 0).trans rfl, (blk_cell BK917.out 1).trans rfl, (blk_cell BK917.out 2).trans rfl, (blk_cell BK918.out 0).trans rfl, (blk_cell BK918.out 1).trans rfl⟩ (fun hHeld => ?_)
     clear hK K
     refine norm_ (a' := ?_) ?_ ?_
     rotate_left
     ·show Act.put _ (some 100) _ = _
      simp only [Act.put, List.setIfInBounds_toArray, List.set_cons_zero, List.set_cons_succ, i64_w, i32_w]
      rfl
     refine one_ (i := 3) (N := some 102) #[true, true, true, true, true, false, false, false, false, false, false, false] rfl rfl (one_of HT_.out (by kernel_rfl)) (by decide) (fun K hK => ?_)
     refine goes_ Try.func18 (by kernel_rfl) rfl #[.agg #[.int .i64 a1_0, .int .i64 a1_1]] (by rfl) rfl rfl zai3 ?_
     with_reducible refine (laws_toLeaper.calls a1_0 a1_1 t973 t974 _ A89.out).mono ?_
     rintro e w97 ⟨rfl, hb⟩
     refine ⟨_, rfl, ?_⟩
     have n0_ := Aside0.mk (Kd.R_below zai10 hb)
     have n1_ := Aside0.mk (Kd.R_below zai9 hb)
     have n2_ := Aside0.mk (Kd.R_below zai8 hb)
     have n3_ := Aside0.mk (Kd.R_below zai28 hb)
     have n4_ := Aside0.mk (blk_below (g := gb917) (o := .cells #[.int .i64 a0_0, .int .i64 a0_1, .slice A0_2 l0_2.length c0_2] 24 (0, 0)) zai2 hb)
     have n5_ := Aside0.mk (blk_below (g := gb918) (o := .cells #[.int .i64 a1_0, .int .i64 a1_1] 26 (0, 0)) zai4 hb)
     have n6_ := Aside0.mk (blk_below (g := gb939) (o := .cells #[.int .i64 t934, .int .i64 t935, .slice Ao41 t961.length co41] 30 (0, 0)) zai7 hb)
     have n7_ := Aside0.mk (below_step zai1 hb)
     clear HO_8
     clear HO_12
     clear HO_940002
     clear HO972
     clear BK917
     clear BK918
     clear BK939
     clear HB
     have HO_8 := n0_
     have HO_12 := n1_
     have HO_940002 := n2_
     have HO972 := n3_
     have BK917 := n4_
     have BK918 := n5_
     have BK939 := n6_
     have HB := n7_
     clear n0_ n1_ n2_ n3_ n4_ n5_ n6_ n7_
     (try clear hb)
     (try clear hb2)
     (try clear hk)
     (try clear hi)
     (try clear hna_)
     (try clear hnb_)
     refine hK.out _ _ ⟨(blk_cell BK917.out 0).trans rfl, (blk_cell BK917.out 1).trans rfl, (blk_cell BK917.out 2).trans rfl, (blk_cell BK918.out 0).trans rfl, (blk_cell BK918.out 1).trans rfl⟩ (fun hHeld => ?_)
     clear hK K
     refine norm_ (a' := ?_) ?_ ?_
     rotate_left
     ·show Act.put _ (some 102) _ = _
      simp only [Act.put, List.setIfInBounds_toArray, List.set_cons_zero, List.set_cons_succ, i64_w, i32_w]
      rfl
     refine one_ (i := 5) (N := some 104) #[true, true, true, true, true, true, false, false, false, false, false, false] rfl rfl (one_of HT_.out (by kernel_rfl)) (by decide) (fun K hK => ?_)
     refine goes_ Try.func19 (by kernel_rfl) rfl #[.slice A2 l2.length c2] (by rfl) rfl rfl zai3 ?_
     with_reducible refine (laws_toIntS.calls kj61 _ _ l2 t975 _ ?side1 ?side2 A90.out).mono ?_
     (case side1 => exact zai21)
     (case side2 => exact HC2.out)
     rintro e w98 ⟨v976, rfl, ho0, hb⟩
     refine ⟨_, rfl, ?_⟩
     have n0_ := Aside0.mk (Kd.R_elder' zai10 (Kd.R_base ho0) hb)
     have n1_ := Aside0.mk (Kd.R_elder' zai9 (Kd.R_base ho0) hb)
     have n2_ := Aside0.mk (Kd.R_elder' zai8 (Kd.R_base ho0) hb)
     have n3_ := Aside0.mk (Kd.R_elder' zai28 (Kd.R_base ho0) hb)
     have n4_ := Aside0.mk (Kd.R_lower (Kd.R_new' (Kd.R_new' (Kd.R_new' (Kd.R_new' ho0 (Kd.R_lt zai10)) (Kd.R_lt zai9)) (Kd.R_lt zai8)) (Kd.R_lt zai28)) (below_size zai1))
     have n5_ := Aside0.mk (blk_below (g := gb917) (o := .cells #[.int .i64 a0_0, .int .i64 a0_1, .slice A0_2 l0_2.length c0_2] 24 (0, 0)) zai2 hb)
     have n6_ := Aside0.mk (blk_below (g := gb918) (o := .cells #[.int .i64 a1_0, .int .i64 a1_1] 26 (0, 0)) zai4 hb)
     have n7_ := Aside0.mk (blk_below (g := gb939) (o := .cells #[.int .i64 t934, .int .i64 t935, .slice Ao41 t961.length co41] 30 (0, 0)) zai7 hb)
     have n8_ := Aside0.mk (below_step zai1 hb)
     clear HO_8
     clear HO_12
     clear HO_940002
     clear HO972
     clear BK917
     clear BK918
     clear BK939
     clear HB
     have HO_8 := n0_
     have HO_12 := n1_
     have HO_940002 := n2_
     have HO972 := n3_
     have HO977 := n4_
     have BK917 := n5_
     have BK918 := n6_
     have BK939 := n7_
     have HB := n8_
     clear n0_ n1_ n2_ n3_ n4_ n5_ n6_ n7_ n8_
     (try clear hb)
     (try clear hb2)
     (try clear hk)
     (try clear hi)
     (try clear ho0)
     (try clear hna_)
     (try clear hnb_)
     obtain ⟨Ao99, co99, eo99⟩ := Kd.R_slice HO972.out
     (first | subst eo99 | (injection eo99 with f1_ f2_ f3_; have f4_ := f1_.symm; have f5_ := f3_.symm; clear f1_ f2_ f3_; subst f4_; subst f5_))
     obtain ⟨Ao100, co100, eo100⟩ := Kd.R_slice HO977.out
     (first | subst eo100 | (injection eo100 with f1_ f2_ f3_; have f4_ := f1_.symm; have f5_ := f3_.symm; clear f1_ f2_ f3_; subst f4_; subst f5_))
     refine hK.out _ _ ⟨(blk_cell BK917.out 0).trans rfl, (blk_cell BK917.out 1).trans rfl, (blk_cell BK917.out 2).trans rfl, (blk_cell BK918.out 0).trans rfl, (blk_cell BK918.out 1).trans rfl⟩ (fun hHeld => ?_)
     clear hK K
     refine norm_ (a' := ?_) ?_ ?_
     rotate_left
     ·show Act.put _ (some 104) _ = _
      simp only [Act.put, List.setIfInBounds_toArray, List.set_cons_zero, List.set_cons_succ, i64_w, i32_w]
      rfl
     refine one_ (i := 6) (N := some 105) #[true, true, true, true, true, true, true, false, false, false, false, false] rfl rfl (one_of HT_.out (by kernel_rfl)) (by decide) (fun K hK => ?_)
     refine goes_ Try.func37 (by kernel_rfl) rfl #[.agg #[.int .i64 t968, .int .i64 t969, .slice Ao99 t970.length co99], .agg #[.int .i64 t973, .int .i64 t974], .slice Ao100 t975.length co100] (by rfl) rfl rfl zai3 ?_
     with_reducible refine (impl_WalkOfNumbers.calls kj61 t968 t969 _ _ t970 t973 t974 _ _ t975 t978 t981 _ ?side1 ?side2 ?side3 ?side4 A91.out).mono ?_
     (case side1 => repeat (first | exact (Kd.R_reads' HO972.out).2.2 | (with_reducible refine Kd.C_alloc ?_ _) | (with_reducible refine Kd.C_drewN ?_ _) | (with_reducible refine Kd.C_drew ?_)))
     (case side2 => exact (Kd.R_reads' HO972.out).2.1)
     (case side3 => repeat (first | exact (Kd.R_reads' HO977.out).2.2 | (with_reducible refine Kd.C_alloc ?_ _) | (with_reducible refine Kd.C_drewN ?_ _) | (with_reducible refine Kd.C_drew ?_)))
     (case side4 => exact (Kd.R_reads' HO977.out).2.1)
     rintro e w101 ⟨v979, rfl, ho0, hb⟩
     refine ⟨_, rfl, ?_⟩
     have n0_ := Aside0.mk (Kd.R_elder' zai10 (Kd.R_base ho0) hb)
     have n1_ := Aside0.mk (Kd.R_elder' zai9 (Kd.R_base ho0) hb)
     have n2_ := Aside0.mk (Kd.R_elder' zai8 (Kd.R_base ho0) hb)
     have n3_ := Aside0.mk (Kd.R_elder' zai28 (Kd.R_base ho0) hb)
     have n4_ := Aside0.mk (Kd.R_elder' (by (with_reducible repeat (first | apply Kd.R_alloc | apply Kd.R_drewN | apply Kd.R_drew)); exact HO977.out) (Kd.R_base ho0) hb)
     have n5_ := Aside0.mk (Kd.R_lower (Kd.R_new' (Kd.R_new' (Kd.R_new' (Kd.R_new' (Kd.R_new' ho0 (Kd.R_lt zai10)) (Kd.R_lt zai9)) (Kd.R_lt zai8)) (Kd.R_lt zai28)) (Kd.R_lt (by (with_reducible repeat (first | apply Kd.R_alloc | apply Kd.R_drewN | apply Kd.R_drew)); exact HO977.out))) (below_size zai1))
     have n6_ := Aside0.mk (blk_below (g := gb917) (o := .cells #[.int .i64 a0_0, .int .i64 a0_1, .slice A0_2 l0_2.length c0_2] 24 (0, 0)) zai2 hb)
     have n7_ := Aside0.mk (blk_below (g := gb918) (o := .cells #[.int .i64 a1_0, .int .i64 a1_1] 26 (0, 0)) zai4 hb)
     have n8_ := Aside0.mk (blk_below (g := gb939) (o := .cells #[.int .i64 t934, .int .i64 t935, .slice Ao41 t961.length co41] 30 (0, 0)) zai7 hb)
     have n9_ := Aside0.mk (below_step zai1 hb)
     clear HO_8
     clear HO_12
     clear HO_940002
     clear HO972
     clear HO977
     clear BK917
     clear BK918
     clear BK939
     clear HB
     have HO_8 := n0_
     have HO_12 := n1_
     have HO_940002 := n2_
     have HO972 := n3_
     have HO977 := n4_
     have HO980 := n5_
     have BK917 := n6_
     have BK918 := n7_
     have BK939 := n8_
     have HB := n9_
     clear n0_ n1_ n2_ n3_ n4_ n5_ n6_ n7_ n8_ n9_
     (try clear hb)
     (try clear hb2)
     (try clear hk)
     (try clear hi)
     (try clear ho0)
     (try clear hna_)
     (try clear hnb_)
     refine hK.out _ _ ⟨(blk_cell BK917.out 0).trans rfl, (blk_cell BK917.out 1).trans rfl, (blk_cell BK917.out 2).trans rfl, (blk_cell BK918.out 0).trans rfl, (blk_cell BK918.out 1).trans rfl⟩ (fun hHeld => ?_)
     clear hK K
     refine norm_ (a' := ?_) ?_ ?_
     rotate_left
     ·show Act.put _ (some 105) _ = _
      simp only [Act.put, List.setIfInBounds_toArray, List.set_cons_zero, List.set_cons_succ, i64_w, i32_w]
      rfl
     refine pure_ (i := 7) (N := some 98) (v := ?_) (a' := ?_) #[true, true, true, true, true, true, true, true, false, false, false, false] rfl rfl (any_of HT_.out (by kernel_rfl)) (fun _ _ _ h => h) (Or.inl ⟨by rfl, ?_⟩) ?_ ?_
     rotate_left
     ·intro w'
      go_simp
      with_reducible rfl
     rotate_left
     ·simp only [Act.put, List.setIfInBounds_toArray, List.set_cons_zero, List.set_cons_succ, i64_w, i32_w]
      rfl
     refine pure_ (i := 8) (N := some 106) (v := ?_) (a' := ?_) #[true, true, true, true, true, true, true, true, true, false, false, false] rfl rfl (any_of HT_.out (by kernel_rfl)) (fun _ _ _ h => h) (Or.inl ⟨by rfl, ?_⟩) ?_ ?_
     rotate_left
     ·intro w'
      go_simp
      with_reducible rfl
     rotate_left
     ·simp only [Act.put, List.setIfInBounds_toArray, List.set_cons_zero, List.set_cons_succ, i64_w, i32_w]
      rfl
     refine pure_ (i := 9) (N := some 107) (v := ?_) (a' := ?_) #[true, true, true, true, true, true, true, true, true, true, false, false] rfl rfl (any_of HT_.out (by kernel_rfl)) (fun _ _ _ h => h) (Or.inl ⟨by rfl, ?_⟩) ?_ ?_
     rotate_left
     ·intro w'
      go_simp
      with_reducible rfl
     rotate_left
     ·simp only [Act.put, List.setIfInBounds_toArray, List.set_cons_zero, List.set_cons_succ, i64_w, i32_w]
      rfl
     refine pure_ (i := 10) (N := some 17) (v := ?_) (a' := ?_) #[true, true, true, true, true, true, true, true, true, true, true, false] rfl rfl (any_of HT_.out (by kernel_rfl)) (fun _ _ _ h => h) (Or.inl ⟨by rfl, ?_⟩) ?_ ?_
     rotate_left
     ·intro w'
      go_simp
      with_reducible rfl
     rotate_left
     ·simp only [Act.put, List.setIfInBounds_toArray, List.set_cons_zero, List.set_cons_succ, i64_w, i32_w]
      rfl
     refine pure_ (i := 11) (N := some 18) (v := ?_) (a' := ?_) #[true, true, true, true, true, true, true, true, true, true, true, true] rfl rfl (any_of HT_.out (by kernel_rfl)) (fun _ _ _ h => h) (Or.inl ⟨by rfl, ?_⟩) ?_ ?_
     rotate_left
     ·intro w'
      go_simp
      with_reducible rfl
     rotate_left
     ·simp only [Act.put, List.setIfInBounds_toArray, List.set_cons_zero, List.set_cons_succ, i64_w, i32_w]
      rfl
     refine done_ (done_of HT_.out (by kernel_rfl)) ?_
     go_upto_region 31 with (fail)
     go_cut [116] (fun v116 wc => ∃ (kq : Nat) (x116_91 : Bool), v116 = .bool x116_91 ∧ Aside0 (laws_FnExactWalkOfNumbers.j2 kq t966 t965 x116_91 = some r) ∧ Aside0 (kq ≤ kj61) ∧ Aside0 (Kd.R (Kd.int .i64) 3 wc w.heap.size (fun k_ => some k_ ≠ ((.slice Ao41 t961.length co41) : Value).ownBlock) (.slice Ao93 t945.length co93) t966) ∧ Aside0 (Kd.R (Kd.int .i64) 3 wc w.heap.size (fun k_ => some k_ ≠ ((.slice Ao93 t945.length co93) : Value).ownBlock) (.slice Ao41 t961.length co41) t961) ∧ Aside0 (wc.heap[gb917]? = some (.cells #[.int .i64 a0_0, .int .i64 a0_1, (.slice A0_2 l0_2.length c0_2)] 24 (0, 0))) ∧ Aside0 (wc.heap[gb918]? = some (.cells #[.int .i64 a1_0, .int .i64 a1_1] 26 (0, 0))) ∧ Aside0 (wc.heap[gb939]? = some (.cells #[.int .i64 t934, .int .i64 t935, (.slice Ao41 t961.length co41)] 30 (0, 0))) ∧ Aside0 (Below w.heap.size w wc))
     case first =>
      have H := HC92.out
      clear HC92
      replace H := Option.bind_eq_some_iff.mp H
      obtain ⟨t982, A1020, H⟩ := H
      replace H : (if t982 = true then (laws_FnExactWalkOfNumbers.j2 kj61 t966 t965 (t981 != t933)) else (laws_FnExactWalkOfNumbers.j2 kj61 t966 t965 true)) = some r := H
      have A102 := Aside0.mk A1020
      clear A1020
      by_cases c103 : t982 = true
      ·subst c103
       have H1 : (laws_FnExactWalkOfNumbers.j2 kj61 t966 t965 (t981 != t933)) = some r := by rw [if_pos rfl] at H; exact H
       clear H
       have H := H1
       clear H1
       have H' := Aside0.mk H
       clear H
       obtain ⟨Ao104, co104, eo104⟩ := Kd.R_slice HO980.out
       subst eo104
       obtain ⟨Ao105, co105, eo105⟩ := Kd.R_slice HO_8.out
       subst eo105
       go_wp2_with (first | ((with_reducible refine gate_callee (f := 21) rfl ?_); refine goesL_ (some 110) rfl rfl Try.func21 (by kernel_rfl) rfl #[.slice Ao104 t978.length co104, .slice Ao105 t930.length co105] rfl zai3 ?_; (with_reducible refine (laws_eqIntS.calls kj61 _ _ t978 _ _ t930 true _ ?side1 ?side2 ?side3 ?side4 A102.out).mono ?_); (case side1 => exact zai45); (case side2 => exact (Kd.R_reads' HO980.out).2.1); (case side3 => exact zai22); (case side4 => exact (Kd.R_reads' HO_8.out).2.1); rintro e w' ⟨rfl, ⟨nd, rfl⟩⟩; refine ⟨_, rfl, ?_⟩))
       go_meet
       case rel => exact ⟨_, ((t981 != t933)), zai35, H', ⟨by have := HJ21.out; have := HJ61.out; first | omega | exact Nat.le_refl _⟩, ⟨zai39⟩, ⟨zai38⟩, ⟨zai51⟩, ⟨zai50⟩, ⟨zai49⟩, ⟨zai1⟩⟩
      replace c103 := Bool.eq_false_iff.mpr c103
      subst c103
      have H1 : (laws_FnExactWalkOfNumbers.j2 kj61 t966 t965 true) = some r := by rw [if_neg (show ¬ (false = true) by decide)] at H; exact H
      clear H
      have H := H1
      clear H1
      have H' := Aside0.mk H
      clear H
      obtain ⟨Ao106, co106, eo106⟩ := Kd.R_slice HO980.out
      subst eo106
      obtain ⟨Ao107, co107, eo107⟩ := Kd.R_slice HO_8.out
      subst eo107
      go_wp2_with (first | ((with_reducible refine gate_callee (f := 21) rfl ?_); refine goesL_ (some 110) rfl rfl Try.func21 (by kernel_rfl) rfl #[.slice Ao106 t978.length co106, .slice Ao107 t930.length co107] rfl zai3 ?_; (with_reducible refine (laws_eqIntS.calls kj61 _ _ t978 _ _ t930 false _ ?side1 ?side2 ?side3 ?side4 A102.out).mono ?_); (case side1 => exact zai45); (case side2 => exact (Kd.R_reads' HO980.out).2.1); (case side3 => exact zai22); (case side4 => exact (Kd.R_reads' HO_8.out).2.1); rintro e w' ⟨rfl, ⟨nd, rfl⟩⟩; refine ⟨_, rfl, ?_⟩))
      go_meet
      case rel => exact ⟨_, (true), zai35, H', ⟨by have := HJ21.out; have := HJ61.out; first | omega | exact Nat.le_refl _⟩, ⟨zai39⟩, ⟨zai38⟩, ⟨zai51⟩, ⟨zai50⟩, ⟨zai49⟩, ⟨zai1⟩⟩
     case rest =>
      clear HC92
      try clear c1; try clear c2; try clear p2; try clear c3; try clear c4; try clear c4b0; try clear c4b1; try clear c5; try clear c6; try clear c7; try clear c8; try clear c8b0; try clear c9; try clear c10; try clear c11; try clear c15; try clear c17; try clear c18; try clear c19; try clear c21; try clear c22; try clear c23; try clear c24; try clear c25; try clear c36; try clear c37; try clear c38; try clear c39; try clear c48; try clear c53; try clear c56; try clear c59; try clear c69; try clear c70; try clear c74; try clear c74b0; try clear c76; try clear c81; try clear c84; try clear c84b0; try clear c87
      try clear c87b0; try clear c87b1; try clear c103; try clear hcz12_0; try clear hcz12_1; try clear hcz12_2; try clear hcz26_0; try clear hcz26_1; try clear hcz26_2; try clear hcz35_0; try clear hcz35_1; try clear hcz35_2; try clear hcz40_0; try clear hcz40_1; try clear hcz40_2; try clear hcz71_0; try clear hcz71_1; try clear hcz71_2; try clear hfz12_0; try clear hfz12_1; try clear hfz12_2; try clear hfz26_0; try clear hfz26_1; try clear hfz26_2; try clear hfz35_0; try clear hfz35_1; try clear hfz35_2; try clear hfz40_0; try clear hfz40_1; try clear hfz40_2; try clear hfz71_0; try clear hfz71_1; try clear hfz71_2
      try clear p2
      obtain ⟨kq, x116_91, rfl, HA, HJ91, HO_12, HO_940002, BK917, BK918, BK939, HB⟩ := hcut
      have hl12_91 := (Kd.R_reads' HO_12.out).1
      rw [hl12_91] at HO_12
      (try simp only [hl12_91])
      (try simp only [hl12_91] at BK917)
      (try simp only [hl12_91] at BK918)
      (try simp only [hl12_91] at BK939)
      (try simp only [hl12_91] at HO_940002)
      cases kq with
      | zero => exact absurd HA.out (by simp [laws_FnExactWalkOfNumbers.j2])
      | succ kj91 =>
       have H := HA.out
       clear HA
       simp only [laws_FnExactWalkOfNumbers.j2] at H
       by_cases c108 : x116_91 = true
       ·subst c108
        have H1 : (some false) = some r := by rw [if_pos rfl] at H; exact H
        clear H
        have H := H1
        clear H1
        obtain rfl := Option.some.inj H
        go_wp2
        go_ret
        exact ⟨zai17, zai1⟩
       replace c108 := Bool.eq_false_iff.mpr c108
       subst c108
       have H1 : ((laws_heldIntS.f kj91 t966 1).bind fun t983 => (if t983 < 0 then (some false) else (if t983 = t965 then (some true) else (some false)))) = some r := by rw [if_neg (show ¬ (false = true) by decide)] at H; exact H
       clear H
       have H := H1
       clear H1
       replace H := Option.bind_eq_some_iff.mp H
       obtain ⟨t983, A1090, H⟩ := H
       replace H : (if t983 < 0 then (some false) else (if t983 = t965 then (some true) else (some false))) = some r := H
       have A109 := Aside0.mk A1090
       clear A1090
       by_cases c110 : t983 < 0
       ·rw [if_pos c110] at H
        have c110b0 : decide (t983 < 0) = true := decide_eq_true c110
        clear c110
        obtain rfl := Option.some.inj H
        go_wp2_with (first | ((with_reducible refine gate_callee (f := 25) rfl ?_); refine goesL_ (some 119) rfl rfl Try.func25 (by kernel_rfl) rfl #[.slice Ao93 t966.length co93, .int .i64 1] rfl zai3 ?_; (with_reducible refine (laws_heldIntS.calls kj91 _ _ t966 1 t983 _ ?side1 ?side2 A109.out).mono ?_); (case side1 => exact zai14); (case side2 => exact (Kd.R_reads' HO_12.out).2.1); rintro e w' ⟨rfl, ⟨nd, rfl⟩⟩; refine ⟨_, rfl, ?_⟩))
        go_ret
        exact ⟨zai17, zai1⟩
       rw [if_neg c110] at H
       have c110b0 : decide (t983 < 0) = false := decide_eq_false c110
       clear c110
       by_cases c111 : t983 = t965
       rotate_left
       ·rw [if_neg c111] at H
        have c111b0 : (t983 == t965) = false := beq_eq_false_iff_ne.mpr c111
        have c111b1 : (t983 != t965) = true := bne_iff_ne.mpr c111
        obtain rfl := Option.some.inj H
        go_wp2_with (first | ((with_reducible refine gate_callee (f := 25) rfl ?_); refine goesL_ (some 119) rfl rfl Try.func25 (by kernel_rfl) rfl #[.slice Ao93 t966.length co93, .int .i64 1] rfl zai3 ?_; (with_reducible refine (laws_heldIntS.calls kj91 _ _ t966 1 t983 _ ?side1 ?side2 A109.out).mono ?_); (case side1 => exact zai14); (case side2 => exact (Kd.R_reads' HO_12.out).2.1); rintro e w' ⟨rfl, ⟨nd, rfl⟩⟩; refine ⟨_, rfl, ?_⟩))
        go_ret
        exact ⟨zai17, zai1⟩
       rw [if_pos c111] at H
       have c111b0 : (t983 == t965) = true := beq_iff_eq.mpr c111
       have c111b1 : (t983 != t965) = false := bne_eq_false_iff_eq.mpr c111
       clear c111
       obtain rfl := Option.some.inj H
       go_wp2_with (first | ((with_reducible refine gate_callee (f := 25) rfl ?_); refine goesL_ (some 119) rfl rfl Try.func25 (by kernel_rfl) rfl #[.slice Ao93 t966.length co93, .int .i64 1] rfl zai3 ?_; (with_reducible refine (laws_heldIntS.calls kj91 _ _ t966 1 t983 _ ?side1 ?side2 A109.out).mono ?_); (case side1 => exact zai14); (case side2 => exact (Kd.R_reads' HO_12.out).2.1); rintro e w' ⟨rfl, ⟨nd, rfl⟩⟩; refine ⟨_, rfl, ?_⟩))
       go_ret
       exact ⟨zai17, zai1⟩

end Go.Proofs.Ytjeongckkfkehaa.Q
